/- The Go functions refine their models, part 2. -/
import Derived.Test.YtgnkkopjkgdieaaGreatLaneHoldsR1
set_option linter.unusedVariables false
set_option linter.unusedSimpArgs false
set_option maxRecDepth 100000
set_option maxHeartbeats 4000000
namespace Go.Proofs.YtgnkkopjkgdieaaGreat
open Go Go.V
open _root_.Go.Proofs.Tryz IntKind
attribute [local irreducible] wpList Code.wp wpQuiet Calls bodyPost Oper.wp wpS Nx PendOK YieldsIn
theorem mvcc_Store_Scan_ref {w0 w : World} {I : HL} {R : SP} {a0 : (Option mvcc_Store)} {p0 : Value} {a1 : Nat} {a2 : Nat} {a3 : Int} {a4 : Int}  (hst : St w0 w I [objO at_mvcc_Store p0 a0] R) {r : ((List api_Pair))} (hm : mvcc_Store_Scan a0 a1 a2 a3 a4 = some r) :
  Calls prog 77 #[p0, F6 a1, F6 a2, U6 a3, I6 a4] w fun e w' => ∃ (I' : HL) (q0_0 : Value), e = .returned (q0_0) ∧ I.le I' ∧ St w0 w' I' [ownS ty_api_Pair q0_0 r, objO at_mvcc_Store p0 a0] R := by {
 rcases a0 with _ | o0
 {
 obtain ⟨rfl, hst'⟩ := objO_none hst
 clear hst
 have hst := hst'
 clear hst'
 dsimp only [mvcc_Store_Scan] at hm
 refine calls_start (args := [.pointer none, F6 a1, F6 a2, U6 a3, I6 a4]) func77 z ntmps77 (Nat.le_of_ble_eq_true z) ?_
 have hI0 := HL.le.refl I
 refine wp_seq (wrl (wv ((.slice none 0 0)) z z z (wl_nil (tn (wp_seq (wp_seq (wrl (wv (.pointer none) z z z (wv (.bool true) z z (by kernel_rfl) (wl_nil (tn ?_)))))))))))
 refine wp_ift z ?_
 refine wp_seq (wrl (wv ((.slice none 0 0)) z z z (wl_nil (tn (wp_ret (then_r ?_))))))
 replace hst := hst.own_nil ty_api_Pair
 replace hst := hst.objO_nil at_mvcc_Store
 obtain rfl := some_inj hm
 refine post_ret (vs := [Zs]) results77 (rvs_cons (rv_tmp z) rvs_nil) ?_
 replace hst := hst.pull1
 exact ⟨_, Zs, z, hI0, hst.keep2⟩
}
 {
 replace hst := objO_get hst
 dsimp only [mvcc_Store_Scan] at hm
 refine calls_start (args := [p0, F6 a1, F6 a2, U6 a3, I6 a4]) func77 z ntmps77 (Nat.le_of_ble_eq_true z) ?_
 have hI0 := HL.le.refl I
 refine wp_seq (wrl (wv ((.slice none 0 0)) z z z (wl_nil (tn (wp_seq (wp_seq (wrl (wv (p0) z z z ?_))))))))
 obtain ⟨b777, v778, rfl, hst'⟩ := at_mvcc_Store_open hst
 clear hst
 have hst := hst'
 clear hst'
 refine wv (.bool false) z z (by kernel_rfl) (wl_nil (tn ?_))
 refine wp_iff z ?_
 refine wp_skip (tn (wp_seq (wrl ?_)))
 refine wv ((.slice none 0 0)) z z z (wl_nil (tn (wp_seq (wp_seq (wrl (wv (Pt b777 0) z z z (wv (.float .f64 a1) z z z ?_)))))))
 obtain ⟨t781, ht782, hm⟩ := bind_some hm
 refine wc call118 [F6 a1] z z z ?_
 refine (number_Rank_ref hst.to0 ht782).mono ?_
 rintro _ w783 ⟨rfl, hst⟩
 refine ⟨_, z, ?_⟩
 replace hst := hst.of0.pull1.pull1
 replace hst := at_mvcc_Store_close (pv := Pt b777 0) (x := o0) hst z
 replace hst := objO_some hst
 obtain ⟨t786, ht787, hm⟩ := bind_some hm
 refine wc call146 [Pt b777 0, U6 t781] z z z ?_
 refine (mvcc_Store_find_ref hst.to1 ht787).mono ?_
 rintro _ w788 ⟨rfl, hst⟩
 refine ⟨_, z, ?_⟩
 replace hst := hst.of1
 replace hst := objO_get hst
 refine wv (.tuple #[I6 t786.1, .bool t786.2]) z z z (wv (.int .i64 t786.1) z z z (wv (.bool t786.2) z z z (wv (.int .i64 t786.1) z z z (wv (.bool t786.2) z z z (wl_nil (tn (wp_block ?_)))))))
 replace hst := hst.own_nil ty_api_Pair
 obtain ⟨n972, hm⟩ := loopO_some hm
 refine wp_loop_n (fun n a w => ∃ (I970 : HL) (z966 : (List api_Pair)) (z969 : Int) (v967 : Value) (σ971 : Nat → Value), loopN (mvcc_Store_Scan_l0 o0 a2 a4 a3) n (z966, z969) = some r ∧ a = Fr 80 (upd (upd (upd (upd (upd (upd σ971 0 (Pt b777 0)) 2 (.float .f64 a2)) 3 (.int .u64 a3)) 4 (.int .i64 a4)) 11 (v967)) 12 (.int .i64 z969)) ∧ I.le I970 ∧ St w0 w I970 [ownS ty_api_Pair v967 z966, at_mvcc_Store (Pt b777 0) o0] R) n972 ⟨_, [], t786.1, Zs, _, hm, (fu 0 (Pt b777 0) z (fu 2 (.float .f64 a2) z (fu 3 (.int .u64 a3) z (fu 4 (.int .i64 a4) z (fu 11 (.slice none 0 0) z (fu 12 (.int .i64 t786.1) z z)))))), (HL.le.refl _), hst⟩ ?_
 rintro n978 _ w973 ⟨I970, z966, z969, v967, σ971, hm, rfl, hL974, hst⟩
 obtain ⟨n975, y976, rfl, hm, hx977⟩ := loopN_some hm
 dsimp only [mvcc_Store_Scan_l0] at hm
 replace hI0 := hI0.trans hL974
 refine wp_seq (wp_seq ?_)
 replace hst := hst.pull1
 obtain ⟨b979, v980, e982, hst'⟩ := at_mvcc_Store_open hst
 clear hst
 have e982 := ptr_inj e982
 subst e982
 have hst := hst'
 clear hst'
 refine wp_region_St hst 26 [0, 1, 2, 3, 4, 5, 6, 7, 8, 9, 10, 11, 12, 13, 14, 15, 16, 17, 18, 19, 20, 21, 22, 23, 24, 25] [0, 0, 2, 6, 14, 30, 63, 127, 255, 511, 1023, 2047, 255, 8191, 16383, 32767, 255, 65791, 262143, 524287, 1048575, 2097151, 4194303, 2097151, 16777215, 33554431] [] z (by kernel_rfl) (by kernel_rfl) Tryz.mixed (by kernel_rfl) ?_
 refine wsr (.int .i64 z969) 0 z z z (by kernel_rfl) (fun w hst => z) (wsr (Pt b777 0) 1 z z z (by kernel_rfl) (fun w hst => z) (wsr (Pt b777 0) 2 z z z (by kernel_rfl) (fun w hst => z) (wsr (Pt b777 0) 3 z z z (by kernel_rfl) (fun w hst => x_field z underlying201 z sizeOf199 z) (wsr (v980) 4 z z z (by kernel_rfl) (fun w hst => x_load z isAgg199 (hst.bc0 z)) (wsr (.int .i64 ((o0.rows).length : Int)) 5 z z z (by kernel_rfl) (fun w hst => x_len z underlying199 (hst.nestsv 1 z)) (wsr (.bool (decide (z969 < ((o0.rows).length : Int)))) 6 z z z (by kernel_rfl) (fun w hst => z) (wsr (.bool (decide (z969 < ((o0.rows).length : Int)))) 7 z z z (by kernel_rfl) (fun w hst => z) ?_)))))))
 refine bsplit (decide (z969 < ((o0.rows).length : Int))) (fun hc983 => ?_) (fun hc983 => ?_)
 {
 replace hm := bif_t hc983 hm
 refine ws_q (v := Pt b777 0) 8 [9, 10, 11, 12, 13, 14, 15, 16, 17, 18, 19, 20, 21, 22, 23, 24, 25] (by kernel_rfl) z z (yi_run ((wanted_eq z z z (cvb hc983)).trans z) (fun w hst => z)) (ws_q (v := Pt b777 0) 9 [10, 11, 12, 13, 14, 15, 16, 17, 18, 19, 20, 21, 22, 23, 24, 25] (by kernel_rfl) z z (yi_run ((wanted_eq z z z (cvb hc983)).trans z) (fun w hst => z)) (ws_q (v := Pt b777 0) 10 [11, 12, 13, 14, 15, 16, 17, 18, 19, 20, 21, 22, 23, 24, 25] (by kernel_rfl) z z (yi_run ((wanted_eq z z z (cvb hc983)).trans z) (fun w hst => x_field z underlying201 z sizeOf199 z)) (ws_q (v := v980) 11 [12, 13, 14, 15, 16, 17, 18, 19, 20, 21, 22, 23, 24, 25] (by kernel_rfl) z z (yi_run ((wanted_eq z z z (cvb hc983)).trans z) (fun w hst => x_load z isAgg199 (hst.bc0 z))) (ws_q (v := .int .i64 z969) 12 [13, 14, 15, 16, 17, 18, 19, 20, 21, 22, 23, 24, 25] (by kernel_rfl) z z (yi_run ((wanted_eq z z z (cvb hc983)).trans z) (fun w hst => z)) ?_))))
 obtain ⟨x984, hx985, hm⟩ := bind_some hm
 obtain ⟨h986, h987, hi988⟩ := geto_some hx985
 refine ws_q (v := .pointer (some (eAddr v980 (z969.toNat * 2 + 0)))) 13 [14, 15, 16, 17, 18, 19, 20, 21, 22, 23, 24, 25] (by kernel_rfl) z z (yi_run ((wanted_eq z z z (cvb hc983)).trans z) (fun w hst => x_index z z underlying199 sizeOf240 (hst.nestsv 1 z) h986 h987)) (ws_q (v := .pointer (some (eAddr v980 (z969.toNat * 2 + 0)))) 14 [15, 16, 17, 18, 19, 20, 21, 22, 23, 24, 25] (by kernel_rfl) z z (yi_run ((wanted_eq z z z (cvb hc983)).trans z) (fun w hst => x_field_e z underlying240 z sizeOf26 z)) (ws_q (v := .int .u64 x984.rank) 15 [16, 17, 18, 19, 20, 21, 22, 23, 24, 25] (by kernel_rfl) z z (yi_run ((wanted_eq z z z (cvb hc983)).trans z) (fun w hst => x_load z isAgg26 (hst.nestc (N := nest_mvcc_row) (i := z969.toNat) (o := 0) 1 z hi988 (fun _ => z)))) (ws_q (v := .float .f64 a2) 16 [17, 18, 19, 20, 21, 22, 23, 24, 25] (by kernel_rfl) z z (yi_run ((wanted_eq z z z (cvb hc983)).trans z) (fun w hst => z)) ?_)))
 refine ws_e1 17 (by kernel_rfl) ?_
 refine nxe [18, 19, 20, 21, 22, 23, 24, 25] (by kernel_rfl) z ((wanted_eq z z z (cvb hc983)).trans z) ?_
 clear hst
 intro w hst
 obtain ⟨t989, ht990, hm⟩ := bind_some hm
 refine wec call118 [F6 a2] z z ?_
 refine (number_Rank_ref hst.to0 ht990).mono ?_
 rintro _ w991 ⟨rfl, hst⟩
 refine ⟨_, z, ?_⟩
 replace hst := hst.of0
 refine ws_next (pend' := [(15, U6 x984.rank), (14, .pointer (some (eAddr v980 (z969.toNat * 2 + 0)))), (13, .pointer (some (eAddr v980 (z969.toNat * 2 + 0)))), (12, I6 z969), (11, v980), (10, Pt b777 0), (9, Pt b777 0), (8, Pt b777 0)]) hst (by kernel_rfl) (pk_cons z (yi_run ((wanted_eq z z z (cvb hc983)).trans z) (fun w hst => x_load z isAgg26 (hst.nestc (N := nest_mvcc_row) (i := z969.toNat) (o := 0) 1 z hi988 (fun _ => z)))) (pk_cons z (yi_run ((wanted_eq z z z (cvb hc983)).trans z) (fun w hst => x_field_e z underlying240 z sizeOf26 z)) (pk_cons z (yi_run ((wanted_eq z z z (cvb hc983)).trans z) (fun w hst => x_index z z underlying199 sizeOf240 (hst.nestsv 1 z) h986 h987)) (pk_cons z (yi_run ((wanted_eq z z z (cvb hc983)).trans z) (fun w hst => z)) (pk_cons z (yi_run ((wanted_eq z z z (cvb hc983)).trans z) (fun w hst => x_load z isAgg199 (hst.bc0 z))) (pk_cons z (yi_run ((wanted_eq z z z (cvb hc983)).trans z) (fun w hst => x_field z underlying201 z sizeOf199 z)) (pk_cons z (yi_run ((wanted_eq z z z (cvb hc983)).trans z) (fun w hst => z)) (pk_cons z (yi_run ((wanted_eq z z z (cvb hc983)).trans z) (fun w hst => z)) pk_nil)))))))) ?_
 refine ws_q (v := .bool (decide (x984.rank ≤ t989))) 18 [19, 20, 21, 22, 23, 24, 25] (by kernel_rfl) z z (yi_run ((wanted_eq z z z (cvb hc983)).trans z) (fun w hst => z)) (wsr (.bool (decide (x984.rank ≤ t989))) 19 z z z (by kernel_rfl) (fun w hst => x_pick_t hc983 z z) (wsr (.bool (decide (x984.rank ≤ t989))) 20 z z z (by kernel_rfl) (fun w hst => z) ?_))
 refine bsplit (decide (x984.rank ≤ t989)) (fun hc994 => ?_) (fun hc994 => ?_)
 {
 replace hm := bif_t hc994 hm
 refine ws_q (v := v967) 21 [22, 23, 24, 25] (by kernel_rfl) z z (yi_run ((wanted_eq z z z (cvb hc994)).trans z) (fun w hst => z)) (ws_q (v := .int .i64 ((z966).length : Int)) 22 [23, 24, 25] (by kernel_rfl) z z (yi_run ((wanted_eq z z z (cvb hc994)).trans z) (fun w hst => x_len z underlying81 hst.sv2)) (ws_q (v := .int .i64 a4) 23 [24, 25] (by kernel_rfl) z z (yi_run ((wanted_eq z z z (cvb hc994)).trans z) (fun w hst => z)) (ws_q (v := .bool (decide (((z966).length : Int) < a4))) 24 [25] (by kernel_rfl) z z (yi_run ((wanted_eq z z z (cvb hc994)).trans z) (fun w hst => z)) (wsr (.bool (decide (((z966).length : Int) < a4))) 25 z z z (by kernel_rfl) (fun w hst => x_pick_t hc994 z z) ?_))))
 refine ws_nil ?_
 intro w hst
 refine tn ?_
 refine bsplit (decide (((z966).length : Int) < a4)) (fun hc995 => ?_) (fun hc995 => ?_)
 {
 replace hm := bif_t hc995 hm
 refine wp_ift (cvb hc995) ?_
 refine wp_skip (tn (wp_seq (wp_block (wp_seq (wrl ?_)))))
 refine wv (Pt b777 0) z z z (wv (Pt b777 0) z z z (wv (Pt b777 0) z z (x_field z underlying201 z sizeOf199 z) (wv (v980) z z (x_load z isAgg199 (hst.bc0 z)) (wv (.int .i64 z969) z z z (wv (.pointer (some (eAddr v980 (z969.toNat * 2 + 0)))) z z (x_index z z underlying199 sizeOf240 (hst.nestsv 1 z) h986 h987) (wv (.pointer (some (eAddr v980 (z969.toNat * 2 + 1)))) z z (x_field_e z underlying240 z sizeOf238 z) ?_))))))
 replace hst := hst.pull1
 obtain ⟨v996, hst⟩ := hst.nest_focus hi988
 refine wv (v996) z z (x_load z isAgg238 ((hst.holeall (N := nest_mvcc_row) (i := z969.toNat) 1 z hi988) 1 _ z)) (wv (.int .u64 a3) z z z ?_)
 obtain ⟨css998, hq999, hst⟩ := hst.own_open
 obtain ⟨t1000, ht1001, hm⟩ := bind_some hm
 refine wc call147 [v996, U6 a3] z z z ?_
 refine (mvcc_read_ref (hst.rdrow0 hq999) hst.to0 ht1001).mono ?_
 rintro _ w1002 ⟨v1005, rfl, hst⟩
 refine ⟨_, z, ?_⟩
 replace hst := hst.of1.pull1.own_close hq999
 obtain ⟨b1008, w1009, ew1010, eb1011, hst⟩ := hst.box [.bool false, Zs] 61
 refine wl_run (v := Pt b1008 0) (w' := w1009) z z (x_al (by kernel_rfl) ew1010 eb1011) ?_
 obtain ⟨w1013, hr1014, hst⟩ := hst.bx [.bool t1000.Has, v1005] sizeOf61 z (oC z (oC (one_of_sliceV hst.sv2) oN)) (by kernel_rfl)
 refine wl_unit z z (x_unit hr1014) ?_
 refine wl_nil (tn (wp_seq (wrl (wv (Pt b1008 0) z z (x_field z underlying61 z sizeOf4 z) (wv (.bool t1000.Has) z z (x_load z isAgg4 (hst.bc0 z)) (wl_nil (tn ?_)))))))
 refine bsplit t1000.Has (fun hc1015 => ?_) (fun hc1015 => ?_)
 {
 replace hm := bif_t hc1015 hm
 refine wp_ift (cvb hc1015) ?_
 refine wp_region_St hst 16 [0, 1, 2, 3, 4, 5, 6, 7, 8, 9, 10, 11, 12, 13, 14, 15] [0, 0, 2, 6, 14, 0, 62, 126, 254, 510, 0, 1024, 4094, 8190, 16383, 32767] [15] z (by kernel_rfl) (by kernel_rfl) Tryz.mixed (by kernel_rfl) ?_
 refine wsr (v967) 0 z z z (by kernel_rfl) (fun w hst => z) (wsr (Pt b777 0) 1 z z z (by kernel_rfl) (fun w hst => z) (wsr (Pt b777 0) 2 z z z (by kernel_rfl) (fun w hst => z) (wsr (Pt b777 0) 3 z z z (by kernel_rfl) (fun w hst => x_field z underlying201 z sizeOf199 z) (wsr (v980) 4 z z z (by kernel_rfl) (fun w hst => x_load z isAgg199 (hst.bc4 z)) (wsr (.int .i64 z969) 5 z z z (by kernel_rfl) (fun w hst => z) (wsr (.pointer (some (eAddr v980 (z969.toNat * 2 + 0)))) 6 z z z (by kernel_rfl) (fun w hst => x_index z z underlying199 sizeOf240 (hst.holesv 3 z) h986 h987) (wsr (.pointer (some (eAddr v980 (z969.toNat * 2 + 0)))) 7 z z z (by kernel_rfl) (fun w hst => x_field_e z underlying240 z sizeOf26 z) (wsr (.int .u64 x984.rank) 8 z z z (by kernel_rfl) (fun w hst => x_load z isAgg26 (hst.holec (N := nest_mvcc_row) (i := z969.toNat) (o := 0) 3 z hi988 (fun _ => z))) (wsr (Pt b1008 1) 10 z z z (by kernel_rfl) (fun w hst => x_field z underlying61 z sizeOf22 z) (wsr (v1005) 11 z z z (by kernel_rfl) (fun w hst => x_load z isAgg22 (hst.bc0 z)) ?_))))))))))
 refine ws_e1 9 (by kernel_rfl) ?_
 refine nxe [12, 13, 14, 15] (by kernel_rfl) z z ?_
 clear hst
 intro w hst
 obtain ⟨t1016, ht1017, hm⟩ := bind_some hm
 refine wec call107 [U6 x984.rank] z z ?_
 refine (number_Back_ref hst.to0 ht1017).mono ?_
 rintro _ w1018 ⟨rfl, hst⟩
 refine ⟨_, z, ?_⟩
 replace hst := hst.of0
 refine ws_next (pend' := [(11, v1005), (10, Pt b1008 1), (0, v967)]) hst (by kernel_rfl) (pkr z z (fun w hst => x_load z isAgg22 (hst.bc0 z)) (pkr z z (fun w hst => x_field z underlying61 z sizeOf22 z) (pkr z z (fun w hst => z) pk_nil))) ?_
 refine wsr (.agg #[F6 t1016, v1005]) 12 rfl rfl rfl (by kernel_rfl) (fun w hst => by obtain ⟨_, _, hv_, _⟩ := hst.sv2; rw [hv_]; kernel_rfl) ?_
 refine ws_e1 13 (by kernel_rfl) ?_
 refine nxe [14, 15] (by kernel_rfl) z z ?_
 clear hst
 intro w hst
 replace hst := hst.pull2
 obtain ⟨I1023, hI1024, f1025, hst⟩ := hst.own_fix
 replace hI0 := hI0.trans hI1024
 replace hL974 := hL974.trans hI1024
 obtain ⟨b1026, w1027, ew1028, eb1029, hst⟩ := hst.lits (E := ty_api_Pair) (xs := [({ At := t1016, Val := t1000.Val } : api_Pair)]) [[F6 t1016, v1005]] 152 1 z (Reps.cons ⟨_, z, f1025, one_of_sliceV (ro_sliceV f1025)⟩ Reps.nil)
 refine we_run (v := (.slice (some ⟨b1026, 0, none⟩) 1 1)) (w' := w1027) z (x_als (by kernel_rfl) ew1028 eb1029) ?_
 refine ws_next (pend' := [(0, v967)]) hst (by kernel_rfl) (pkr z z (fun w hst => z) pk_nil) ?_
 refine ws_e1 14 (by kernel_rfl) ?_
 refine nxe [15] (by kernel_rfl) z z ?_
 clear hst
 intro w hst
 obtain ⟨hg1031, hm⟩ := gd_some hm
 replace hst := hst.pull5
 obtain ⟨v1032, w1033, hr1034, hst⟩ := run_append elem_81 underlying81 hst hst.src1 (room_of hg1031 z) 81
 refine we_run (v := v1032) (w' := w1033) z (x_append z z hr1034) ?_
 refine ws_next (pend' := []) hst (by kernel_rfl) pk_nil ?_
 refine ws_e1 15 (by kernel_rfl) ?_
 refine nxe [] (by kernel_rfl) z z ?_
 clear hst
 intro w hst
 refine we_run (v := v1032) (w' := w) z z ?_
 refine ws_next (pend' := []) hst (by kernel_rfl) pk_nil ?_
 refine ws_nil ?_
 intro w hst
 refine blk_n (tn (wrl ?_))
 refine wv (.int .i64 z969) z z z (wv (.int .i64 (i64.wrap (z969 + (1:Int)))) z z z (wv (.int .i64 (i64.wrap (z969 + (1:Int)))) z z z (wl_nil (tn ?_))))
 replace hst := hst.pull4.pull4
 replace hst := St.nest_close0 (N := nest_mvcc_row) hst hi988
 replace hst := hst.pull4
 replace hst := at_mvcc_Store_close (pv := Pt b777 0) (x := o0) hst z
 replace hst := hst.pull1.keep2
 obtain rfl := some_inj hm
 exact ⟨_, Nat.lt_succ_self _, _, (z966 ++ ([({ At := t1016, Val := t1000.Val } : api_Pair)])), (i64.wrap (z969 + (1:Int))), v1032, _, hx977, (fu 0 (Pt b777 0) z (fu 2 (.float .f64 a2) z (fu 3 (.int .u64 a3) z (fu 4 (.int .i64 a4) z (fu 11 v1032 z (fu 12 (.int .i64 (i64.wrap (z969 + (1:Int)))) z z)))))), hL974, hst⟩
}
 {
 replace hm := bif_f hc1015 hm
 refine wp_iff (cvb hc1015) ?_
 refine wp_skip (blk_n (tn (wrl ?_)))
 refine wv (.int .i64 z969) z z z (wv (.int .i64 (i64.wrap (z969 + (1:Int)))) z z z (wv (.int .i64 (i64.wrap (z969 + (1:Int)))) z z z (wl_nil (tn ?_))))
 replace hst := hst.pull3.pull2
 replace hst := St.nest_close0 (N := nest_mvcc_row) hst hi988
 replace hst := hst.pull3
 replace hst := at_mvcc_Store_close (pv := Pt b777 0) (x := o0) hst z
 replace hst := hst.pull3.keep2
 obtain rfl := some_inj hm
 exact ⟨_, Nat.lt_succ_self _, _, z966, (i64.wrap (z969 + (1:Int))), v967, _, hx977, (fu 0 (Pt b777 0) z (fu 2 (.float .f64 a2) z (fu 3 (.int .u64 a3) z (fu 4 (.int .i64 a4) z (fu 11 v967 z (fu 12 (.int .i64 (i64.wrap (z969 + (1:Int)))) z z)))))), hL974, hst⟩
}
}
 {
 replace hm := bif_f hc995 hm
 refine wp_iff (cvb hc995) ?_
 refine wp_exit (then_x (then_x ?_))
 replace hm := inr_up hm hx977
 refine blk_x (tn (wp_seq (wrl ?_)))
 refine wv (v967) z z z (wv (v967) z z z (wl_nil (tn (wp_ret ?_))))
 replace hst := hst.pull1.pull1
 replace hst := at_mvcc_Store_close (pv := Pt b777 0) (x := o0) hst z
 replace hst := objO_some hst
 obtain rfl := some_inj hm
 refine post_ret (vs := [v967]) results77 (rvs_cons (rv_tmp z) rvs_nil) ?_
 replace hst := hst.pull1
 exact ⟨_, v967, z, hI0, hst.keep2⟩
}
}
 {
 replace hm := bif_f hc994 hm
 refine ws_q (v := undef) 21 [22, 23, 24, 25] (by kernel_rfl) z z (yi_off ((wanted_eq z z z (cvb hc994)).trans z)) (ws_q (v := undef) 22 [23, 24, 25] (by kernel_rfl) z z (yi_off ((wanted_eq z z z (cvb hc994)).trans z)) (ws_q (v := undef) 23 [24, 25] (by kernel_rfl) z z (yi_off ((wanted_eq z z z (cvb hc994)).trans z)) (ws_q (v := undef) 24 [25] (by kernel_rfl) z z (yi_off ((wanted_eq z z z (cvb hc994)).trans z)) (wsr (.bool false) 25 z z z (by kernel_rfl) (fun w hst => x_pick_f hc994 z z) ?_))))
 refine ws_nil ?_
 intro w hst
 refine tn ?_
 refine wp_iff z ?_
 refine wp_exit (then_x (then_x ?_))
 replace hm := inr_up hm hx977
 refine blk_x (tn (wp_seq (wrl ?_)))
 refine wv (v967) z z z (wv (v967) z z z (wl_nil (tn (wp_ret ?_))))
 replace hst := hst.pull1.pull1
 replace hst := at_mvcc_Store_close (pv := Pt b777 0) (x := o0) hst z
 replace hst := objO_some hst
 obtain rfl := some_inj hm
 refine post_ret (vs := [v967]) results77 (rvs_cons (rv_tmp z) rvs_nil) ?_
 replace hst := hst.pull1
 exact ⟨_, v967, z, hI0, hst.keep2⟩
}
}
 {
 replace hm := bif_f hc983 hm
 refine ws_q (v := undef) 8 [9, 10, 11, 12, 13, 14, 15, 16, 17, 18, 19, 20, 21, 22, 23, 24, 25] (by kernel_rfl) z z (yi_off ((wanted_eq z z z (cvb hc983)).trans z)) (ws_q (v := undef) 9 [10, 11, 12, 13, 14, 15, 16, 17, 18, 19, 20, 21, 22, 23, 24, 25] (by kernel_rfl) z z (yi_off ((wanted_eq z z z (cvb hc983)).trans z)) (ws_q (v := undef) 10 [11, 12, 13, 14, 15, 16, 17, 18, 19, 20, 21, 22, 23, 24, 25] (by kernel_rfl) z z (yi_off ((wanted_eq z z z (cvb hc983)).trans z)) (ws_q (v := undef) 11 [12, 13, 14, 15, 16, 17, 18, 19, 20, 21, 22, 23, 24, 25] (by kernel_rfl) z z (yi_off ((wanted_eq z z z (cvb hc983)).trans z)) (ws_q (v := undef) 12 [13, 14, 15, 16, 17, 18, 19, 20, 21, 22, 23, 24, 25] (by kernel_rfl) z z (yi_off ((wanted_eq z z z (cvb hc983)).trans z)) (ws_q (v := undef) 13 [14, 15, 16, 17, 18, 19, 20, 21, 22, 23, 24, 25] (by kernel_rfl) z z (yi_off ((wanted_eq z z z (cvb hc983)).trans z)) (ws_q (v := undef) 14 [15, 16, 17, 18, 19, 20, 21, 22, 23, 24, 25] (by kernel_rfl) z z (yi_off ((wanted_eq z z z (cvb hc983)).trans z)) (ws_q (v := undef) 15 [16, 17, 18, 19, 20, 21, 22, 23, 24, 25] (by kernel_rfl) z z (yi_off ((wanted_eq z z z (cvb hc983)).trans z)) (ws_q (v := undef) 16 [17, 18, 19, 20, 21, 22, 23, 24, 25] (by kernel_rfl) z z (yi_off ((wanted_eq z z z (cvb hc983)).trans z)) (ws_q (v := undef) 17 [18, 19, 20, 21, 22, 23, 24, 25] (by kernel_rfl) z z (yi_off ((wanted_eq z z z (cvb hc983)).trans z)) (ws_q (v := undef) 18 [19, 20, 21, 22, 23, 24, 25] (by kernel_rfl) z z (yi_off ((wanted_eq z z z (cvb hc983)).trans z)) (wsr (.bool false) 19 z z z (by kernel_rfl) (fun w hst => x_pick_f hc983 z z) (wsr (.bool false) 20 z z z (by kernel_rfl) (fun w hst => z) ?_))))))))))))
 refine ws_q (v := undef) 21 [22, 23, 24, 25] (by kernel_rfl) z z (yi_off ((wanted_eq z z z z).trans z)) (ws_q (v := undef) 22 [23, 24, 25] (by kernel_rfl) z z (yi_off ((wanted_eq z z z z).trans z)) (ws_q (v := undef) 23 [24, 25] (by kernel_rfl) z z (yi_off ((wanted_eq z z z z).trans z)) (ws_q (v := undef) 24 [25] (by kernel_rfl) z z (yi_off ((wanted_eq z z z z).trans z)) (wsr (.bool false) 25 z z z (by kernel_rfl) (fun w hst => x_pick_f z z z) ?_))))
 refine ws_nil ?_
 intro w hst
 refine tn ?_
 refine wp_iff z ?_
 refine wp_exit (then_x (then_x ?_))
 replace hm := inr_up hm hx977
 refine blk_x (tn (wp_seq (wrl ?_)))
 refine wv (v967) z z z (wv (v967) z z z (wl_nil (tn (wp_ret ?_))))
 replace hst := hst.pull1.pull1
 replace hst := at_mvcc_Store_close (pv := Pt b777 0) (x := o0) hst z
 replace hst := objO_some hst
 obtain rfl := some_inj hm
 refine post_ret (vs := [v967]) results77 (rvs_cons (rv_tmp z) rvs_nil) ?_
 replace hst := hst.pull1
 exact ⟨_, v967, z, hI0, hst.keep2⟩
}
}
}

theorem lane_State_Told_ref {w0 w : World} {I : HL} {R : SP} {a0 : (Option lane_State)} {p0 : Value} {a1 : api_Hold} {r1_0 : Value} {r1_1 : Value} {r1_2 : Value} {r1_3 : Value} (f1_0 : Rd tyF64 R I r1_0 a1.Gets) (f1_1 : Rd tyF2 R I r1_1 a1.Scans) (f1_2 : Rd tyF64 R I r1_2 a1.Puts) (f1_3 : Rd (tyInt .u8) R I r1_3 a1.Data) (hst : St w0 w I [objO at_lane_State p0 a0] R) {r : (api_Reply)} (hm : lane_State_Told a0 a1 = some r) :
  Calls prog 33 #[p0, .agg #[U6 a1.ID.Session, U6 a1.ID.Seq, U6 a1.Epoch, r1_0, r1_1, r1_2, r1_3]] w fun e w' => ∃ (I' : HL) (q0_0 : Value) (q0_1 : Value), e = .returned (.agg #[I6 r.E, U6 r.Epoch, U6 r.Index, q0_0, q0_1]) ∧ I.le I' ∧ St w0 w' I' [ownS ty_api_Got q0_0 r.Gots, ownS (tySl ty_api_Pair) q0_1 r.Scans, objO at_lane_State p0 a0] R := by {
 rcases a0 with _ | o0
 {
 obtain ⟨rfl, hst'⟩ := objO_none hst
 clear hst
 have hst := hst'
 clear hst'
 dsimp only [lane_State_Told] at hm
 refine calls_start (args := [.pointer none, .agg #[U6 a1.ID.Session, U6 a1.ID.Seq, U6 a1.Epoch, r1_0, r1_1, r1_2, r1_3]]) func33 z ntmps33 (Nat.le_of_ble_eq_true z) ?_
 have hI0 := HL.le.refl I
 refine wp_seq (wrl ?_)
 obtain ⟨b729, w730, ew731, eb732, hst⟩ := hst.box [U6 a1.ID.Session, U6 a1.ID.Seq, U6 a1.Epoch, r1_0, r1_1, r1_2, r1_3] 46
 refine wl_run (v := Pt b729 0) (w' := w730) z z (x_al (by kernel_rfl) ew731 eb732) ?_
 obtain ⟨b736, w737, ew738, eb739, hst⟩ := hst.box [Zi, Zu, Zu, Zs, Zs] 33
 refine wl_run (v := Pt b736 0) (w' := w737) z z (x_al (by kernel_rfl) ew738 eb739) ?_
 refine wl_nil (tn (wp_seq (wrl ?_)))
 obtain ⟨b743, w744, ew745, eb746, hst⟩ := hst.box [Zi, Zu, Zu, Zs, Zs] 33
 refine wl_run (v := Pt b743 0) (w' := w744) z z (x_al (by kernel_rfl) ew745 eb746) ?_
 refine wl_nil (tn (wp_seq (wp_seq (wrl (wv (.pointer none) z z z (wv (.bool true) z z (by kernel_rfl) (wl_nil (tn ?_))))))))
 refine wp_ift z ?_
 refine wp_seq (wrl (wv (.agg #[Zi, Zu, Zu, Zs, Zs]) z z (x_loadN (cs := [Zi, Zu, Zu, Zs, Zs]) z isAgg33 sizeOf33 (hst.bcs0 0 z)) ?_))
 replace hst := hst.pull1
 obtain ⟨w748, hr749, hst⟩ := hst.bx [Zi, Zu, Zu, Zs, Zs] sizeOf33 z (oC z (oC z (oC z (oC z (oC z oN))))) (by kernel_rfl)
 refine wl_unit z z (x_unit hr749) ?_
 refine wl_nil (tn (wp_ret (then_r ?_)))
 replace hst := hst.own_nil ty_api_Got
 replace hst := hst.own_nil (tySl ty_api_Pair)
 replace hst := hst.objO_nil at_lane_State
 obtain rfl := some_inj hm
 refine post_ret (vs := [.agg #[Zi, Zu, Zu, Zs, Zs]]) results33 (rvs_cons (rv_cell (cs := [Zi, Zu, Zu, Zs, Zs]) z isAgg33 sizeOf33 (hst.bcs3 0 z)) rvs_nil) ?_
 replace hst := hst.pull1.pull2
 exact ⟨_, Zs, Zs, z, hI0, hst.keep3⟩
}
 {
 replace hst := objO_get hst
 dsimp only [lane_State_Told] at hm
 refine calls_start (args := [p0, .agg #[U6 a1.ID.Session, U6 a1.ID.Seq, U6 a1.Epoch, r1_0, r1_1, r1_2, r1_3]]) func33 z ntmps33 (Nat.le_of_ble_eq_true z) ?_
 have hI0 := HL.le.refl I
 refine wp_seq (wrl ?_)
 obtain ⟨b750, w751, ew752, eb753, hst⟩ := hst.box [U6 a1.ID.Session, U6 a1.ID.Seq, U6 a1.Epoch, r1_0, r1_1, r1_2, r1_3] 46
 refine wl_run (v := Pt b750 0) (w' := w751) z z (x_al (by kernel_rfl) ew752 eb753) ?_
 obtain ⟨b757, w758, ew759, eb760, hst⟩ := hst.box [Zi, Zu, Zu, Zs, Zs] 33
 refine wl_run (v := Pt b757 0) (w' := w758) z z (x_al (by kernel_rfl) ew759 eb760) ?_
 refine wl_nil (tn (wp_seq (wrl ?_)))
 obtain ⟨b764, w765, ew766, eb767, hst⟩ := hst.box [Zi, Zu, Zu, Zs, Zs] 33
 refine wl_run (v := Pt b764 0) (w' := w765) z z (x_al (by kernel_rfl) ew766 eb767) ?_
 refine wl_nil (tn (wp_seq (wp_seq (wrl (wv (p0) z z z ?_)))))
 replace hst := hst.pull3
 obtain ⟨b769, v770, v772, v774, v776, v778, v780, v782, rfl, hst'⟩ := at_lane_State_open hst
 clear hst
 have hst := hst'
 clear hst'
 refine wv (.bool false) z z (by kernel_rfl) (wl_nil (tn ?_))
 refine wp_iff z ?_
 refine wp_skip (tn ?_)
 obtain ⟨y987, hm, hx988⟩ := bind_some hm
 refine wp_cut (fun a w => ∃ (I984 : HL) (z983 : (List api_Got)) (v982 : Value) (σ985 : Nat → Value), (lane_State_Told_j0 a1 o0) z983 = some r ∧ a = Fr 55 (upd (upd (upd (upd σ985 0 (Pt b769 0)) 3 (Pt b750 0)) 4 (Pt b757 0)) 5 (Pt b764 0)) ∧ I.le I984 ∧ St w0 w I984 [at_lane_State (Pt b769 0) o0, cells b750 [U6 a1.ID.Session, U6 a1.ID.Seq, U6 a1.Epoch, r1_0, r1_1, r1_2, r1_3], cells b757 [Zi, Zu, Zu, Zs, Zs], cells b764 [Zi, Zu, Zu, v982, Zs], ownS ty_api_Got v982 z983] R) ?_ ?_
 {
 have hL989 := HL.le.refl I
 refine wp_seq (wrl (wv (Pt b750 3) z z (x_field z underlying46 z sizeOf43 z) (wv (r1_0) z z (x_load z isAgg43 (hst.bc10 z)) (wv (.int .i64 ((a1.Gets).length : Int)) z z (x_len z underlying43 (rd_sliceV f1_0)) (wv (.int .i64 (0:Int)) z z z (wl_nil (tn (wp_block ?_))))))))
 replace hst := hst.pull7.pull7.pull7.pull7.pull7.pull7.pull7.pull7
 replace hst := at_lane_State_close (pv := Pt b769 0) (x := o0) hst z
 replace hst := hst.own_nil ty_api_Got
 obtain ⟨n929, hm⟩ := loopO_some hm
 refine wp_loop_n (fun n a w => ∃ (I927 : HL) (z923 : (List api_Got)) (z926 : Int) (v924 : Value) (σ928 : Nat → Value), loopN (lane_State_Told_l1 a1 o0) n (z923, z926) = some y987 ∧ a = Fr 55 (upd (upd (upd (upd (upd (upd (upd σ928 0 (Pt b769 0)) 3 (Pt b750 0)) 4 (Pt b757 0)) 5 (Pt b764 0)) 14 (r1_0)) 15 (.int .i64 ((a1.Gets).length : Int))) 16 (.int .i64 z926)) ∧ I.le I927 ∧ St w0 w I927 [ownS ty_api_Got v924 z923, at_lane_State (Pt b769 0) o0, cells b764 [Zi, Zu, Zu, v924, Zs], cells b757 [Zi, Zu, Zu, Zs, Zs], cells b750 [U6 a1.ID.Session, U6 a1.ID.Seq, U6 a1.Epoch, r1_0, r1_1, r1_2, r1_3]] R) n929 ⟨_, [], (0:Int), Zs, _, hm, (fu 0 (Pt b769 0) z (fu 3 (Pt b750 0) z (fu 4 (Pt b757 0) z (fu 5 (Pt b764 0) z (fu 14 r1_0 z (fu 15 (.int .i64 ((a1.Gets).length : Int)) z (fu 16 (.int .i64 (0:Int)) z z))))))), (HL.le.refl _), hst⟩ ?_
 rintro n935 _ w930 ⟨I927, z923, z926, v924, σ928, hm, rfl, hL931, hst⟩
 obtain ⟨n932, y933, rfl, hm, hx934⟩ := loopN_some hm
 dsimp only [lane_State_Told_l1] at hm
 replace f1_0 := f1_0.mono (rd_le hL931)
 replace f1_1 := f1_1.mono (rd_le hL931)
 replace f1_2 := f1_2.mono (rd_le hL931)
 replace f1_3 := f1_3.mono (rd_le hL931)
 replace hI0 := hI0.trans hL931
 replace hL989 := hL989.trans hL931
 refine wp_seq (wrl (wv (.bool (decide (z926 < ((a1.Gets).length : Int)))) z z z (wl_nil (tn (wp_seq ?_)))))
 refine bsplit (decide (z926 < ((a1.Gets).length : Int))) (fun hc936 => ?_) (fun hc936 => ?_)
 {
 replace hm := bif_t hc936 hm
 refine wp_ift (cvb hc936) ?_
 refine wp_skip (tn (wp_seq (wp_block (wp_seq (wrl ?_)))))
 obtain ⟨x937, hx938, hm⟩ := bind_some hm
 obtain ⟨h939, h940, hi941⟩ := geto_some hx938
 refine wv (.pointer (some (eAddr r1_0 (z926.toNat * 1 + 0)))) z z (x_index z z underlying43 sizeOf37 (rd_sliceV f1_0) h939 h940) (wv (.float .f64 x937) z z (x_load z isAgg37 (rd_load f1_0 (HL.le.refl _) hst hi941 (by rintro _ rfl; rfl))) (wv (.float .f64 x937) z z z (wl_nil (tn ?_))))
 replace hst := hst.pull1
 obtain ⟨b942, v943, v945, v947, v949, v951, v953, v955, e957, hst'⟩ := at_lane_State_open hst
 clear hst
 have e957 := ptr_inj e957
 subst e957
 have hst := hst'
 clear hst'
 refine wp_region_St hst 12 [0, 1, 2, 3, 4, 5, 6, 7, 8, 9, 10, 11] [0, 1, 0, 4, 12, 28, 0, 124, 252, 511, 1023, 2047] [] z (by kernel_rfl) (by kernel_rfl) Tryz.mixed (by kernel_rfl) ?_
 refine wsr (Pt b764 3) 0 z z z (by kernel_rfl) (fun w hst => x_field z underlying33 z sizeOf30 z) (wsr (v924) 1 z z z (by kernel_rfl) (fun w hst => x_load z isAgg30 (hst.bc9 z)) (wsr (Pt b769 0) 2 z z z (by kernel_rfl) (fun w hst => z) (wsr (Pt b769 0) 3 z z z (by kernel_rfl) (fun w hst => z) (wsr (Pt b769 2) 4 z z z (by kernel_rfl) (fun w hst => x_field z underlying111 z sizeOf101 z) (wsr (v943) 5 z z z (by kernel_rfl) (fun w hst => x_load z isAgg101 (hst.bc0 z)) (wsr (.float .f64 x937) 6 z z z (by kernel_rfl) (fun w hst => z) ?_))))))
 refine ws_e1 7 (by kernel_rfl) ?_
 refine nxe [8, 9, 10, 11] (by kernel_rfl) z z ?_
 clear hst
 intro w hst
 replace hst := hst.pull1
 obtain ⟨t958, ht959, hm⟩ := bind_some hm
 refine wec call60 [v943, F6 x937, U6 (18446744073709551615:Int)] z z ?_
 refine (mvcc_Store_Get_ref hst.to1 ht959).mono ?_
 rintro _ w960 ⟨v963, rfl, hst⟩
 refine ⟨_, z, ?_⟩
 replace hst := hst.of2
 refine ws_next (pend' := [(1, v924), (0, Pt b764 3)]) hst (by kernel_rfl) (pkr z z (fun w hst => x_load z isAgg30 (hst.bc10 z)) (pkr z z (fun w hst => x_field z underlying33 z sizeOf30 z) pk_nil)) ?_
 refine ws_e1 8 (by kernel_rfl) ?_
 refine nxe [9, 10, 11] (by kernel_rfl) z z ?_
 clear hst
 intro w hst
 obtain ⟨I966, hI967, f968, hst⟩ := hst.own_fix
 replace f1_0 := f1_0.mono (rd_le hI967)
 replace f1_1 := f1_1.mono (rd_le hI967)
 replace f1_2 := f1_2.mono (rd_le hI967)
 replace f1_3 := f1_3.mono (rd_le hI967)
 replace hI0 := hI0.trans hI967
 replace hL989 := hL989.trans hI967
 replace hL931 := hL931.trans hI967
 obtain ⟨b969, w970, ew971, eb972, hst⟩ := hst.lits (E := ty_api_Got) (xs := [t958]) [[.bool t958.Has, v963]] 61 1 z (Reps.cons ⟨_, z, f968, one_of_sliceV (ro_sliceV f968)⟩ Reps.nil)
 refine we_run (v := (.slice (some ⟨b969, 0, none⟩) 1 1)) (w' := w970) z (x_als (by kernel_rfl) ew971 eb972) ?_
 refine ws_next (pend' := [(1, v924), (0, Pt b764 3)]) hst (by kernel_rfl) (pkr z z (fun w hst => x_load z isAgg30 (hst.bc10 z)) (pkr z z (fun w hst => x_field z underlying33 z sizeOf30 z) pk_nil)) ?_
 refine ws_e1 9 (by kernel_rfl) ?_
 refine nxe [10, 11] (by kernel_rfl) z z ?_
 clear hst
 intro w hst
 obtain ⟨hg974, hm⟩ := gd_some hm
 replace hst := hst.pull9
 obtain ⟨v975, w976, hr977, hst⟩ := run_append elem_30 underlying30 hst hst.src1 (room_of hg974 z) 30
 refine we_run (v := v975) (w' := w976) z (x_append z z hr977) ?_
 refine ws_next (pend' := []) hst (by kernel_rfl) pk_nil ?_
 refine wsr (Pt b764 3) 10 z z z (by kernel_rfl) (fun w hst => x_field z underlying33 z sizeOf30 z) ?_
 refine ws_e1 11 (by kernel_rfl) ?_
 refine nxe [] (by kernel_rfl) z z ?_
 clear hst
 intro w hst
 replace hst := hst.pull10
 obtain ⟨w979, hr980, hst⟩ := hst.boxStore1 (P := prog) (t := 30) (cs' := [Zi, Zu, Zu, v975, Zs]) 3 v975 (one_of_sliceV hst.sv1) sizeOf30 z z
 refine we_unit z (x_unit hr980) ?_
 refine ws_next (pend' := []) hst (by kernel_rfl) pk_nil ?_
 refine ws_nil ?_
 intro w hst
 refine blk_n (tn (wrl ?_))
 refine wv (.int .i64 (i64.wrap (z926 + (1:Int)))) z z z (wv (.int .i64 (i64.wrap (z926 + (1:Int)))) z z z (wl_nil (tn ?_)))
 replace hst := hst.pull10.pull10.pull10.pull10.pull10.pull10.pull9.pull10
 replace hst := at_lane_State_close (pv := Pt b769 0) (x := o0) hst z
 replace hst := hst.pull5.pull5.pull3.pull3.pull4.keep5
 obtain rfl := some_inj hm
 exact ⟨_, Nat.lt_succ_self _, _, (z923 ++ ([t958])), (i64.wrap (z926 + (1:Int))), v975, _, hx934, (fu 0 (Pt b769 0) z (fu 3 (Pt b750 0) z (fu 4 (Pt b757 0) z (fu 5 (Pt b764 0) z (fu 14 r1_0 z (fu 15 (.int .i64 ((a1.Gets).length : Int)) z (fu 16 (.int .i64 (i64.wrap (z926 + (1:Int)))) z z))))))), hL931, hst⟩
}
 {
 replace hm := bif_f hc936 hm
 refine wp_iff (cvb hc936) ?_
 refine wp_exit (then_x (then_x ?_))
 replace hm := inr_up hm hx934
 refine blk_x (tn ?_)
 replace hst := hst.pull2.pull3.pull4.pull4.keep5
 obtain rfl := some_inj hm
 exact ⟨_, z923, v924, _, hx988, (fu 0 (Pt b769 0) z (fu 3 (Pt b750 0) z (fu 4 (Pt b757 0) z (fu 5 (Pt b764 0) z z)))), hL989, hst⟩
}
}
 {
 clear hst
 rintro _ w990 ⟨I984, z983, v982, σ985, hm, rfl, hL986, hst⟩
 dsimp only [lane_State_Told_j0] at hm
 replace f1_0 := f1_0.mono (rd_le hL986)
 replace f1_1 := f1_1.mono (rd_le hL986)
 replace f1_2 := f1_2.mono (rd_le hL986)
 replace f1_3 := f1_3.mono (rd_le hL986)
 replace hI0 := hI0.trans hL986
 refine wp_seq (wp_seq (wrl (wv (Pt b750 4) z z (x_field z underlying46 z sizeOf44 z) (wv (r1_1) z z (x_load z isAgg44 (hst.bc1 z)) (wv (.int .i64 ((a1.Scans).length : Int)) z z (x_len z underlying44 (rd_sliceV f1_1)) (wv (.int .i64 (0:Int)) z z z (wl_nil (tn (wp_block ?_)))))))))
 replace hst := hst.pull1.sub.own_nil (tySl ty_api_Pair)
 obtain ⟨n1157, hm⟩ := loopO_some hm
 refine wp_loop_n (fun n a w => ∃ (I1155 : HL) (z1151 : (List (List api_Pair))) (z1154 : Int) (v1152 : Value) (σ1156 : Nat → Value), loopN (lane_State_Told_l2 a1 o0 z983) n (z1151, z1154) = some r ∧ a = Fr 55 (upd (upd (upd (upd (upd (upd σ1156 0 (Pt b769 0)) 4 (Pt b757 0)) 5 (Pt b764 0)) 33 (r1_1)) 34 (.int .i64 ((a1.Scans).length : Int))) 35 (.int .i64 z1154)) ∧ I984.le I1155 ∧ St w0 w I1155 [ownS (tySl ty_api_Pair) v1152 z1151, at_lane_State (Pt b769 0) o0, cells b757 [Zi, Zu, Zu, Zs, Zs], cells b764 [Zi, Zu, Zu, v982, v1152], ownS ty_api_Got v982 z983] R) n1157 ⟨_, [], (0:Int), Zs, _, hm, (fu 0 (Pt b769 0) z (fu 4 (Pt b757 0) z (fu 5 (Pt b764 0) z (fu 33 r1_1 z (fu 34 (.int .i64 ((a1.Scans).length : Int)) z (fu 35 (.int .i64 (0:Int)) z z)))))), (HL.le.refl _), hst⟩ ?_
 rintro n1163 _ w1158 ⟨I1155, z1151, z1154, v1152, σ1156, hm, rfl, hL1159, hst⟩
 obtain ⟨n1160, y1161, rfl, hm, hx1162⟩ := loopN_some hm
 dsimp only [lane_State_Told_l2] at hm
 replace f1_0 := f1_0.mono (rd_le hL1159)
 replace f1_1 := f1_1.mono (rd_le hL1159)
 replace f1_2 := f1_2.mono (rd_le hL1159)
 replace f1_3 := f1_3.mono (rd_le hL1159)
 replace hI0 := hI0.trans hL1159
 refine wp_seq (wrl (wv (.bool (decide (z1154 < ((a1.Scans).length : Int)))) z z z (wl_nil (tn (wp_seq ?_)))))
 refine bsplit (decide (z1154 < ((a1.Scans).length : Int))) (fun hc1164 => ?_) (fun hc1164 => ?_)
 {
 replace hm := bif_t hc1164 hm
 refine wp_ift (cvb hc1164) ?_
 refine wp_skip (tn (wp_seq (wp_block (wp_seq (wrl ?_)))))
 obtain ⟨x1165, hx1166, hm⟩ := bind_some hm
 obtain ⟨h1167, h1168, hi1169⟩ := geto_some hx1166
 refine wv (.pointer (some (eAddr r1_1 (z1154.toNat * 2 + 0)))) z z (x_index z z underlying44 sizeOf80 (rd_sliceV f1_1) h1167 h1168) (wv (.agg #[F6 x1165.1, F6 x1165.2]) z z (x_loadN (cs := [F6 x1165.1, F6 x1165.2]) z isAgg80 sizeOf80 (rd_loadN f1_1 (HL.le.refl _) hst hi1169 0 (by rintro _ rfl; rfl))) ?_)
 obtain ⟨b1170, w1171, ew1172, eb1173, hst⟩ := hst.box [Zf, Zf] 80
 refine wl_run (v := Pt b1170 0) (w' := w1171) z z (x_al (by kernel_rfl) ew1172 eb1173) ?_
 obtain ⟨w1175, hr1176, hst⟩ := hst.bx [F6 x1165.1, F6 x1165.2] sizeOf80 z (oC z (oC z oN)) (by kernel_rfl)
 refine wl_unit z z (x_unit hr1176) ?_
 refine wl_nil (tn ?_)
 replace hst := hst.pull2
 obtain ⟨b1177, v1178, v1180, v1182, v1184, v1186, v1188, v1190, e1192, hst'⟩ := at_lane_State_open hst
 clear hst
 have e1192 := ptr_inj e1192
 subst e1192
 have hst := hst'
 clear hst'
 refine wp_region_St hst 15 [0, 1, 2, 3, 4, 5, 6, 7, 8, 9, 10, 11, 12, 13, 14] [0, 1, 0, 4, 12, 28, 0, 64, 0, 256, 1020, 2044, 4095, 8191, 16383] [] z (by kernel_rfl) (by kernel_rfl) Tryz.mixed (by kernel_rfl) ?_
 refine wsr (Pt b764 4) 0 z z z (by kernel_rfl) (fun w hst => x_field z underlying33 z sizeOf31 z) (wsr (v1152) 1 z z z (by kernel_rfl) (fun w hst => x_load z isAgg31 (hst.bc11 z)) (wsr (Pt b769 0) 2 z z z (by kernel_rfl) (fun w hst => z) (wsr (Pt b769 0) 3 z z z (by kernel_rfl) (fun w hst => z) (wsr (Pt b769 2) 4 z z z (by kernel_rfl) (fun w hst => x_field z underlying111 z sizeOf101 z) (wsr (v1178) 5 z z z (by kernel_rfl) (fun w hst => x_load z isAgg101 (hst.bc0 z)) (wsr (Pt b1170 0) 6 z z z (by kernel_rfl) (fun w hst => x_index_arr (i := (0:Int)) z z underlying80 sizeOf37 (by decide) (by decide)) (wsr (.float .f64 x1165.1) 7 z z z (by kernel_rfl) (fun w hst => x_load z isAgg37 (hst.bc8 z)) (wsr (Pt b1170 1) 8 z z z (by kernel_rfl) (fun w hst => x_index_arr (i := (1:Int)) z z underlying80 sizeOf37 (by decide) (by decide)) (wsr (.float .f64 x1165.2) 9 z z z (by kernel_rfl) (fun w hst => x_load z isAgg37 (hst.bc8 z)) ?_)))))))))
 refine ws_e1 10 (by kernel_rfl) ?_
 refine nxe [11, 12, 13, 14] (by kernel_rfl) z z ?_
 clear hst
 intro w hst
 replace hst := hst.pull1
 obtain ⟨t1193, ht1194, hm⟩ := bind_some hm
 refine wec call77 [v1178, F6 x1165.1, F6 x1165.2, U6 (18446744073709551615:Int), I6 (64:Int)] z z ?_
 refine (mvcc_Store_Scan_ref hst.to1 ht1194).mono ?_
 rintro _ w1195 ⟨I1196, v1198, rfl, hI1197, hst⟩
 refine ⟨_, z, ?_⟩
 replace hst := hst.of2
 replace f1_0 := f1_0.mono (rd_le hI1197)
 replace f1_1 := f1_1.mono (rd_le hI1197)
 replace f1_2 := f1_2.mono (rd_le hI1197)
 replace f1_3 := f1_3.mono (rd_le hI1197)
 replace hI0 := hI0.trans hI1197
 replace hL1159 := hL1159.trans hI1197
 refine ws_next (pend' := [(1, v1152), (0, Pt b764 4)]) hst (by kernel_rfl) (pkr z z (fun w hst => x_load z isAgg31 (hst.bc12 z)) (pkr z z (fun w hst => x_field z underlying33 z sizeOf31 z) pk_nil)) ?_
 refine ws_e1 11 (by kernel_rfl) ?_
 refine nxe [12, 13, 14] (by kernel_rfl) z z ?_
 clear hst
 intro w hst
 obtain ⟨I1201, hI1202, f1203, hst⟩ := hst.own_fix
 replace f1_0 := f1_0.mono (rd_le hI1202)
 replace f1_1 := f1_1.mono (rd_le hI1202)
 replace f1_2 := f1_2.mono (rd_le hI1202)
 replace f1_3 := f1_3.mono (rd_le hI1202)
 replace hI0 := hI0.trans hI1202
 replace hL1159 := hL1159.trans hI1202
 obtain ⟨b1204, w1205, ew1206, eb1207, hst⟩ := hst.lits (E := (tySl ty_api_Pair)) (xs := [t1193]) [[v1198]] 81 1 z (Reps.cons ⟨_, z, f1203, one_of_sliceV (ro_sliceV f1203)⟩ Reps.nil)
 refine we_run (v := (.slice (some ⟨b1204, 0, none⟩) 1 1)) (w' := w1205) z (x_als (by obtain ⟨_, _, hv_, _⟩ := (ro_sliceV f1203); rw [hv_]; kernel_rfl) ew1206 eb1207) ?_
 refine ws_next (pend' := [(1, v1152), (0, Pt b764 4)]) hst (by kernel_rfl) (pkr z z (fun w hst => x_load z isAgg31 (hst.bc12 z)) (pkr z z (fun w hst => x_field z underlying33 z sizeOf31 z) pk_nil)) ?_
 refine ws_e1 12 (by kernel_rfl) ?_
 refine nxe [13, 14] (by kernel_rfl) z z ?_
 clear hst
 intro w hst
 obtain ⟨hg1209, hm⟩ := gd_some hm
 replace hst := hst.pull10
 obtain ⟨v1210, w1211, hr1212, hst⟩ := run_append elem_31 underlying31 hst hst.src1 (room_of hg1209 z) 31
 refine we_run (v := v1210) (w' := w1211) z (x_append z z hr1212) ?_
 refine ws_next (pend' := []) hst (by kernel_rfl) pk_nil ?_
 refine wsr (Pt b764 4) 13 z z z (by kernel_rfl) (fun w hst => x_field z underlying33 z sizeOf31 z) ?_
 refine ws_e1 14 (by kernel_rfl) ?_
 refine nxe [] (by kernel_rfl) z z ?_
 clear hst
 intro w hst
 replace hst := hst.pull12
 obtain ⟨w1214, hr1215, hst⟩ := hst.boxStore1 (P := prog) (t := 31) (cs' := [Zi, Zu, Zu, v982, v1210]) 4 v1210 (one_of_sliceV hst.sv1) sizeOf31 z z
 refine we_unit z (x_unit hr1215) ?_
 refine ws_next (pend' := []) hst (by kernel_rfl) pk_nil ?_
 refine ws_nil ?_
 intro w hst
 refine blk_n (tn (wrl ?_))
 refine wv (.int .i64 (i64.wrap (z1154 + (1:Int)))) z z z (wv (.int .i64 (i64.wrap (z1154 + (1:Int)))) z z z (wl_nil (tn ?_)))
 replace hst := hst.pull10.pull10.pull10.pull10.pull10.pull10.pull9.pull10
 replace hst := at_lane_State_close (pv := Pt b769 0) (x := o0) hst z
 replace hst := hst.pull6.pull2.pull6.pull3.pull4.keep5
 obtain rfl := some_inj hm
 exact ⟨_, Nat.lt_succ_self _, _, (z1151 ++ ([t1193])), (i64.wrap (z1154 + (1:Int))), v1210, _, hx1162, (fu 0 (Pt b769 0) z (fu 4 (Pt b757 0) z (fu 5 (Pt b764 0) z (fu 33 r1_1 z (fu 34 (.int .i64 ((a1.Scans).length : Int)) z (fu 35 (.int .i64 (i64.wrap (z1154 + (1:Int)))) z z)))))), hL1159, hst⟩
}
 {
 replace hm := bif_f hc1164 hm
 refine wp_iff (cvb hc1164) ?_
 refine wp_exit (then_x (then_x ?_))
 replace hm := inr_up hm hx1162
 refine blk_x (tn (wp_seq (wrl ?_)))
 refine wv (.agg #[Zi, Zu, Zu, v982, v1152]) z z (x_loadN (cs := [Zi, Zu, Zu, v982, v1152]) z isAgg33 sizeOf33 (hst.bcs3 0 z)) ?_
 replace hst := hst.pull2
 obtain ⟨w1216, hr1217, hst⟩ := hst.bx [Zi, Zu, Zu, v982, v1152] sizeOf33 z (oC z (oC z (oC z (oC (one_of_sliceV hst.sv4) (oC (one_of_sliceV hst.sv1) oN))))) (by kernel_rfl)
 refine wl_unit z z (x_unit hr1217) ?_
 refine wl_nil (tn (wp_ret ?_))
 replace hst := hst.pull2
 replace hst := objO_some hst
 obtain rfl := some_inj hm
 refine post_ret (vs := [.agg #[Zi, Zu, Zu, v982, v1152]]) results33 (rvs_cons (rv_cell (cs := [Zi, Zu, Zu, v982, v1152]) z isAgg33 sizeOf33 (hst.bcs1 0 z)) rvs_nil) ?_
 replace hst := hst.pull2.pull4
 exact ⟨_, v982, v1152, z, hI0, hst.keep3⟩
}
}
}
}

theorem lane_State_prepare_ref {w0 w : World} {I : HL} {R : SP} {a0 : (Option lane_State)} {p0 : Value} {a1 : api_Command} {r1_0 : Value} {r1_1 : Value} {r1_2 : Value} {r1_3 : Value} {r1_4 : Value} {r1_5 : Value} {r1_6 : Value} {r1_7 : Value} (f1_0 : Rd tyF64 R I r1_0 a1.Hold.Gets) (f1_1 : Rd tyF2 R I r1_1 a1.Hold.Scans) (f1_2 : Rd tyF64 R I r1_2 a1.Hold.Puts) (f1_3 : Rd (tyInt .u8) R I r1_3 a1.Hold.Data) (f1_4 : Rd ty_api_Write R I r1_4 a1.Writes) (f1_5 : Rd ty_api_Got R I r1_5 a1.R.Gots) (f1_6 : Rd (tySl ty_api_Pair) R I r1_6 a1.R.Scans) (f1_7 : Rd ty_api_Part R I r1_7 a1.Parts) (hst : St w0 w I [objO at_lane_State p0 a0] R) {r : (api_Effect × (Option lane_State))} (hm : lane_State_prepare a0 a1 = some r) :
  Calls prog 48 #[p0, .agg #[U1 a1.Kind, U6 a1.ID.Session, U6 a1.ID.Seq, U6 a1.Epoch, U6 a1.Index, I6 a1.E, U6 a1.Hold.ID.Session, U6 a1.Hold.ID.Seq, U6 a1.Hold.Epoch, r1_0, r1_1, r1_2, r1_3, r1_4, I6 a1.R.E, U6 a1.R.Epoch, U6 a1.R.Index, r1_5, r1_6, U6 a1.Shards, r1_7, U6 a1.Rule.ID, I6 a1.Rule.From, I6 a1.Rule.To, F6 a1.Rule.Lo, F6 a1.Rule.Hi, U6 a1.Rule.Authority, I6 a1.Rule.Quota, .bool a1.On]] w fun e w' => ∃ (I' : HL) (q0_0 : Value) (q0_1 : Value), e = .returned (.agg #[U1 r.1.Kind, U6 r.1.ID.Session, U6 r.1.ID.Seq, I6 r.1.R.E, U6 r.1.R.Epoch, U6 r.1.R.Index, q0_0, q0_1]) ∧ I.le I' ∧ St w0 w' I' [ownS ty_api_Got q0_0 r.1.R.Gots, ownS (tySl ty_api_Pair) q0_1 r.1.R.Scans, objO at_lane_State p0 r.2] R := by {
 unfold lane_State_prepare at hm
 refine calls_start (args := [p0, .agg #[U1 a1.Kind, U6 a1.ID.Session, U6 a1.ID.Seq, U6 a1.Epoch, U6 a1.Index, I6 a1.E, U6 a1.Hold.ID.Session, U6 a1.Hold.ID.Seq, U6 a1.Hold.Epoch, r1_0, r1_1, r1_2, r1_3, r1_4, I6 a1.R.E, U6 a1.R.Epoch, U6 a1.R.Index, r1_5, r1_6, U6 a1.Shards, r1_7, U6 a1.Rule.ID, I6 a1.Rule.From, I6 a1.Rule.To, F6 a1.Rule.Lo, F6 a1.Rule.Hi, U6 a1.Rule.Authority, I6 a1.Rule.Quota, .bool a1.On]]) func48 z ntmps48 (Nat.le_of_ble_eq_true z) ?_
 have hI0 := HL.le.refl I
 refine wp_seq (wrl ?_)
 obtain ⟨b254, w255, ew256, eb257, hst⟩ := hst.box [U1 a1.Kind, U6 a1.ID.Session, U6 a1.ID.Seq, U6 a1.Epoch, U6 a1.Index, I6 a1.E, U6 a1.Hold.ID.Session, U6 a1.Hold.ID.Seq, U6 a1.Hold.Epoch, r1_0, r1_1, r1_2, r1_3, r1_4, I6 a1.R.E, U6 a1.R.Epoch, U6 a1.R.Index, r1_5, r1_6, U6 a1.Shards, r1_7, U6 a1.Rule.ID, I6 a1.Rule.From, I6 a1.Rule.To, F6 a1.Rule.Lo, F6 a1.Rule.Hi, U6 a1.Rule.Authority, I6 a1.Rule.Quota, .bool a1.On] 49
 refine wl_run (v := Pt b254 0) (w' := w255) z z (x_al (by kernel_rfl) ew256 eb257) ?_
 obtain ⟨b261, w262, ew263, eb264, hst⟩ := hst.box [Zb, Zu, Zu, Zi, Zu, Zu, Zs, Zs] 35
 refine wl_run (v := Pt b261 0) (w' := w262) z z (x_al (by kernel_rfl) ew263 eb264) ?_
 refine wl_nil (tn (wp_seq (wrl (wv (Pt b254 6) z z (x_field z underlying49 z sizeOf46 z) (wv (Pt b254 6) z z (x_field z underlying46 z sizeOf28 z) (wv (.agg #[U6 a1.Hold.ID.Session, U6 a1.Hold.ID.Seq]) z z (x_loadN (cs := [U6 a1.Hold.ID.Session, U6 a1.Hold.ID.Seq]) z isAgg28 sizeOf28 (hst.bcs1 6 z)) (wv (.agg #[U1 (2:Int), U6 a1.Hold.ID.Session, U6 a1.Hold.ID.Seq, Zi, Zu, Zu, Zs, Zs]) z z (by kernel_rfl) ?_)))))))
 obtain ⟨b270, w271, ew272, eb273, hst⟩ := hst.box [Zb, Zu, Zu, Zi, Zu, Zu, Zs, Zs] 35
 refine wl_run (v := Pt b270 0) (w' := w271) z z (x_al (by kernel_rfl) ew272 eb273) ?_
 obtain ⟨w275, hr276, hst⟩ := hst.bx [U1 (2:Int), U6 a1.Hold.ID.Session, U6 a1.Hold.ID.Seq, Zi, Zu, Zu, Zs, Zs] sizeOf35 z (oC z (oC z (oC z (oC z (oC z (oC z (oC z (oC z oN)))))))) (by kernel_rfl)
 refine wl_unit z z (x_unit hr276) ?_
 refine wl_nil (tn (wp_seq (wp_seq (wrl (wv (p0) z z z (wv (Pt b254 6) z z (x_field z underlying49 z sizeOf46 z) (wv (.agg #[U6 a1.Hold.ID.Session, U6 a1.Hold.ID.Seq, U6 a1.Hold.Epoch, r1_0, r1_1, r1_2, r1_3]) z z (x_loadN (cs := [U6 a1.Hold.ID.Session, U6 a1.Hold.ID.Seq, U6 a1.Hold.Epoch, r1_0, r1_1, r1_2, r1_3]) z isAgg46 sizeOf46 (hst.bcs2 6 z)) ?_)))))))
 replace hst := hst.pull3
 obtain ⟨t277, ht278, hm⟩ := bind_some hm
 refine wc call19 [p0, .agg #[U6 a1.Hold.ID.Session, U6 a1.Hold.ID.Seq, U6 a1.Hold.Epoch, r1_0, r1_1, r1_2, r1_3]] z z z ?_
 refine (lane_State_Hold_ref (f1_0.mono (rd_weak _)) (f1_1.mono (rd_weak _)) (f1_2.mono (rd_weak _)) (f1_3.mono (rd_weak _)) hst.to1 ht278).mono ?_
 rintro _ w279 ⟨I280, rfl, hI281, hst⟩
 refine ⟨_, z, ?_⟩
 replace hst := hst.of1
 replace f1_0 := f1_0.mono (rd_le hI281)
 replace f1_1 := f1_1.mono (rd_le hI281)
 replace f1_2 := f1_2.mono (rd_le hI281)
 replace f1_3 := f1_3.mono (rd_le hI281)
 replace f1_4 := f1_4.mono (rd_le hI281)
 replace f1_5 := f1_5.mono (rd_le hI281)
 replace f1_6 := f1_6.mono (rd_le hI281)
 replace f1_7 := f1_7.mono (rd_le hI281)
 replace hI0 := hI0.trans hI281
 refine wv (Pt b270 3) z z (x_field z underlying35 z sizeOf33 z) (wv (Pt b270 3) z z (x_field z underlying33 z sizeOf29 z) ?_)
 replace hst := hst.pull1
 obtain ⟨w282, hr283, hst⟩ := hst.by_ [U1 (2:Int), U6 a1.Hold.ID.Session, U6 a1.Hold.ID.Seq, I6 t277.1, Zu, Zu, Zs, Zs] 3 (.int .i64 t277.1) sizeOf29 z (oC z oN) (by kernel_rfl)
 refine wl_unit z z (x_unit hr283) ?_
 refine wl_nil (tn (wp_seq (wrl (wv (Pt b270 3) z z (x_field z underlying35 z sizeOf33 z) (wv (Pt b270 3) z z (x_field z underlying33 z sizeOf29 z) (wv (.int .i64 t277.1) z z (x_load z isAgg29 (hst.bc0 z)) (wv (.bool (t277.1 == (0:Int))) z z z (wl_nil (tn ?_)))))))))
 refine bsplit (t277.1 == (0:Int)) (fun hc284 => ?_) (fun hc284 => ?_)
 {
 replace hm := bif_t hc284 hm
 refine wp_ift (cvb hc284) ?_
 refine wrl (wv (p0) z z z (wv (Pt b254 6) z z (x_field z underlying49 z sizeOf46 z) (wv (.agg #[U6 a1.Hold.ID.Session, U6 a1.Hold.ID.Seq, U6 a1.Hold.Epoch, r1_0, r1_1, r1_2, r1_3]) z z (x_loadN (cs := [U6 a1.Hold.ID.Session, U6 a1.Hold.ID.Seq, U6 a1.Hold.Epoch, r1_0, r1_1, r1_2, r1_3]) z isAgg46 sizeOf46 (hst.bcs3 6 z)) ?_)))
 replace hst := hst.pull1
 obtain ⟨t285, ht286, hm⟩ := bind_some hm
 refine wc call33 [p0, .agg #[U6 a1.Hold.ID.Session, U6 a1.Hold.ID.Seq, U6 a1.Hold.Epoch, r1_0, r1_1, r1_2, r1_3]] z z z ?_
 refine (lane_State_Told_ref (f1_0.mono (rd_weak _)) (f1_1.mono (rd_weak _)) (f1_2.mono (rd_weak _)) (f1_3.mono (rd_weak _)) hst.to1 ht286).mono ?_
 rintro _ w287 ⟨I288, v290, v292, rfl, hI289, hst⟩
 refine ⟨_, z, ?_⟩
 replace hst := hst.of3
 replace f1_0 := f1_0.mono (rd_le hI289)
 replace f1_1 := f1_1.mono (rd_le hI289)
 replace f1_2 := f1_2.mono (rd_le hI289)
 replace f1_3 := f1_3.mono (rd_le hI289)
 replace f1_4 := f1_4.mono (rd_le hI289)
 replace f1_5 := f1_5.mono (rd_le hI289)
 replace f1_6 := f1_6.mono (rd_le hI289)
 replace f1_7 := f1_7.mono (rd_le hI289)
 replace hI0 := hI0.trans hI289
 refine wv (Pt b270 3) z z (x_field z underlying35 z sizeOf33 z) ?_
 replace hst := hst.pull3
 obtain ⟨w294, hr295, hst⟩ := hst.by_ [U1 (2:Int), U6 a1.Hold.ID.Session, U6 a1.Hold.ID.Seq, I6 t285.E, U6 t285.Epoch, U6 t285.Index, v290, v292] 3 (.agg #[I6 t285.E, U6 t285.Epoch, U6 t285.Index, v290, v292]) sizeOf33 z (oC z (oC z (oC z (oC (one_of_sliceV hst.sv1) (oC (one_of_sliceV hst.sv2) oN))))) (by kernel_rfl)
 refine wl_unit z z (x_unit hr295) ?_
 refine wl_nil (tn (wp_seq (wrl (wv (.agg #[U1 (2:Int), U6 a1.Hold.ID.Session, U6 a1.Hold.ID.Seq, I6 t285.E, U6 t285.Epoch, U6 t285.Index, v290, v292]) z z (x_loadN (cs := [U1 (2:Int), U6 a1.Hold.ID.Session, U6 a1.Hold.ID.Seq, I6 t285.E, U6 t285.Epoch, U6 t285.Index, v290, v292]) z isAgg35 sizeOf35 (hst.bcs0 0 z)) ?_))))
 replace hst := hst.pull4
 obtain ⟨w296, hr297, hst⟩ := hst.bx [U1 (2:Int), U6 a1.Hold.ID.Session, U6 a1.Hold.ID.Seq, I6 t285.E, U6 t285.Epoch, U6 t285.Index, v290, v292] sizeOf35 z (oC z (oC z (oC z (oC z (oC z (oC z (oC (one_of_sliceV hst.sv2) (oC (one_of_sliceV hst.sv3) oN)))))))) (by kernel_rfl)
 refine wl_unit z z (x_unit hr297) ?_
 refine wl_nil (tn (wp_ret ?_))
 obtain rfl := some_inj hm
 refine post_ret (vs := [.agg #[U1 (2:Int), U6 a1.Hold.ID.Session, U6 a1.Hold.ID.Seq, I6 t285.E, U6 t285.Epoch, U6 t285.Index, v290, v292]]) results48 (rvs_cons (rv_cell (cs := [U1 (2:Int), U6 a1.Hold.ID.Session, U6 a1.Hold.ID.Seq, I6 t285.E, U6 t285.Epoch, U6 t285.Index, v290, v292]) z isAgg35 sizeOf35 (hst.bcs0 0 z)) rvs_nil) ?_
 replace hst := hst.pull4.pull4.pull4
 exact ⟨_, v290, v292, z, hI0, hst.keep3⟩
}
 {
 replace hm := bif_f hc284 hm
 refine wp_iff (cvb hc284) ?_
 refine wp_skip (tn (wp_seq (wrl ?_)))
 refine wv (.agg #[U1 (2:Int), U6 a1.Hold.ID.Session, U6 a1.Hold.ID.Seq, I6 t277.1, Zu, Zu, Zs, Zs]) z z (x_loadN (cs := [U1 (2:Int), U6 a1.Hold.ID.Session, U6 a1.Hold.ID.Seq, I6 t277.1, Zu, Zu, Zs, Zs]) z isAgg35 sizeOf35 (hst.bcs0 0 z)) ?_
 replace hst := hst.pull2
 obtain ⟨w298, hr299, hst⟩ := hst.bx [U1 (2:Int), U6 a1.Hold.ID.Session, U6 a1.Hold.ID.Seq, I6 t277.1, Zu, Zu, Zs, Zs] sizeOf35 z (oC z (oC z (oC z (oC z (oC z (oC z (oC z (oC z oN)))))))) (by kernel_rfl)
 refine wl_unit z z (x_unit hr299) ?_
 refine wl_nil (tn (wp_ret ?_))
 replace hst := hst.own_nil ty_api_Got
 replace hst := hst.own_nil (tySl ty_api_Pair)
 obtain rfl := some_inj hm
 refine post_ret (vs := [.agg #[U1 (2:Int), U6 a1.Hold.ID.Session, U6 a1.Hold.ID.Seq, I6 t277.1, Zu, Zu, Zs, Zs]]) results48 (rvs_cons (rv_cell (cs := [U1 (2:Int), U6 a1.Hold.ID.Session, U6 a1.Hold.ID.Seq, I6 t277.1, Zu, Zu, Zs, Zs]) z isAgg35 sizeOf35 (hst.bcs2 0 z)) rvs_nil) ?_
 replace hst := hst.pull4.pull1.pull2
 exact ⟨_, Zs, Zs, z, hI0, hst.keep3⟩
}
}

theorem slices_Delete_api_Hold_api_Hold_ref {w0 w : World} {I : HL} {R : SP} {a0 : (List api_Hold)} {r0_0 : Value} {a1 a2 : Int} (hst : St w0 w I [ownS ty_api_Hold r0_0 a0] R) {r : (List api_Hold)} (hm : slices_Delete_api_Hold_api_Hold a0 a1 a2 = some r) :
  Calls prog 182 #[r0_0, I6 a1, I6 a2] w fun e w' => ∃ (q0_0 : Value), e = .returned (q0_0) ∧ St w0 w' I [ownS ty_api_Hold q0_0 r] R := by {
 unfold slices_Delete_api_Hold_api_Hold at hm
 obtain ⟨hg, hm⟩ := gd_some hm
 obtain rfl := some_inj hm
 obtain ⟨hi0, hi1, hi2⟩ := fits_of hg
 obtain ⟨j, rfl⟩ := Int.eq_ofNat_of_zero_le (Int.le_trans hi0 hi1)
 obtain ⟨k, rfl⟩ := Int.eq_ofNat_of_zero_le hi0
 have hkj : k ≤ j := by omega
 have hs : ∀ w : World, (sizeOf 46).run prog w = .ok ty_api_Hold.sz w := sizeOf46
 obtain ⟨css, hr, hst⟩ := hst.own_open
 obtain ⟨n, hn⟩ : ∃ n, css.length = n := ⟨_, rfl⟩
 have hln : a0.length = n := hr.1.trans hn
 have hjn : j ≤ n := by omega
 have hsv : SliceV r0_0 n := by have := hst.row_form.2; rwa [hn] at this
 have hoc := hr.ones
 refine calls_start (args := [r0_0, I6 (k : Int), I6 (j : Int)]) func182 z ntmps182 (Nat.le_of_ble_eq_true z) ?_
 refine wp_seq (wrl (wv ((.slice none 0 0)) z z z (wl_nil (tn (wp_seq (wrl (wv (r0_0) z z z (wv (.int .i64 (k : Int)) z z z (wv (.int .i64 (j : Int)) z z z (wv (r0_0) z z z (wv (.int .i64 (n : Int)) z z (x_len z underlying125 hsv) ?_)))))))))))
 refine wl_ex z z (x_slice3 underlying125 hs z hsv z z z hkj hjn) fun v3 => ?_
 refine wl_nil (tn (wp_seq (wp_seq (wrl (wv (.int .i64 (k : Int)) z z z (wv (.int .i64 (j : Int)) z z z (wv (.bool ((k : Int) == (j : Int))) z z z (wl_nil (tn ?_)))))))))
 refine bsplit ((k : Int) == (j : Int)) (fun hc252 => ?_) (fun hc252 => ?_)
 {
 refine wp_ift (cvb hc252) ?_
 refine wp_seq (wrl (wv (r0_0) z z z (wv (r0_0) z z z (wl_nil (tn (wp_ret (then_r ?_)))))))
 refine post_ret (vs := [r0_0]) results182 (rvs_cons (rv_tmp z) rvs_nil) ?_
 rw [del_nil hc252]
 exact ⟨_, z, (hst.own_close hr).keep1⟩
}
 {
 refine wp_iff (cvb hc252) ?_
 have hne : ¬ ((k : Int) = (j : Int)) := by simpa using hc252
 have hlt : k < j := by omega
 refine wp_skip (tn (wp_seq (wrl ?_)))
 refine wv (r0_0) z z z (wv (.int .i64 (n : Int)) z z (x_len z underlying125 hsv) (wv (.int .i64 (n : Int)) z z z (wl_nil (tn (wp_seq ?_)))))
 refine wp_region_St hst 8 [0, 1, 2, 3, 4, 5, 6, 7] [0, 0, 3, 0, 0, 24, 63, 127] [7] z (by kernel_rfl) (by kernel_rfl) Tryz.mixed (by kernel_rfl) ?_
 refine wsr (r0_0) 0 z z z (by kernel_rfl) (fun w hst => z) (wsr (.int .i64 (k : Int)) 1 z z z (by kernel_rfl) (fun w hst => z) (wsr ((slcV ty_api_Hold.sz r0_0 0 k)) 2 z z z (by kernel_rfl) (fun w hst => x_slice (lo := (0 : Nat)) (hi := (k : Nat)) underlying125 hs z hsv (by omega) (by omega) (by omega) .i64 .i64 (.inr ⟨z, z⟩) (.inl z)) (wsr (r0_0) 3 z z z (by kernel_rfl) (fun w hst => z) (wsr (.int .i64 (j : Int)) 4 z z z (by kernel_rfl) (fun w hst => z) (wsr ((slcV ty_api_Hold.sz r0_0 j n)) 5 z z z (by kernel_rfl) (fun w hst => x_slice (lo := (j : Nat)) (hi := (n : Nat)) underlying125 hs z hsv (by omega) (by omega) (by omega) .i64 .i64 (.inl z) (.inr ⟨z, z⟩)) ?_)))))
 refine ws_e1 6 (by kernel_rfl) ?_
 refine nxe [7] (by kernel_rfl) z z ?_
 clear hst
 intro w hst
 obtain ⟨w2, hra, hst⟩ := run_appDel (P := prog) underlying125 hs hst hn hlt hjn hoc 125
 refine we_run (v := (slcV ty_api_Hold.sz r0_0 0 (k + (n - j)))) (w' := w2) z (x_append z z hra) ?_
 have hnl := (show _ from hst)
 clear hnl
 have hn2 : (css.take k ++ (css.drop j ++ css.drop (k + (n - j)))).length = n := by simp only [List.length_append, List.length_take, List.length_drop]; omega
 have hsm := row_slc hst hn2 (m := (k + (n - j))) (by omega)
 refine ws_next (pend' := []) hst (by kernel_rfl) pk_nil ?_
 refine ws_e1 7 (by kernel_rfl) ?_
 refine nxe [] (by kernel_rfl) z z ?_
 clear hst
 intro w hst
 refine we_run (v := (slcV ty_api_Hold.sz r0_0 0 (k + (n - j)))) (w' := w) z z ?_
 refine ws_next (pend' := []) hst (by kernel_rfl) pk_nil ?_
 refine ws_nil ?_
 intro w hst
 refine tn (wp_seq (wrl (wv ((slcV ty_api_Hold.sz r0_0 0 (k + (n - j)))) z z z (wv ((slcV ty_api_Hold.sz r0_0 0 (k + (n - j)))) z z z (wv (.int .i64 (((k + (n - j)) : Nat) : Int)) z z (x_len z underlying125 hsm) (wv (.int .i64 (n : Int)) z z z (wv ((slcV ty_api_Hold.sz r0_0 (k + (n - j)) n)) z z (x_sliceRe underlying125 hs z hsv z z (by omega) (by omega)) ?_)))))))
 obtain ⟨w3, hrc, hst⟩ := run_clear elem_125 z (ones_of (by kernel_rfl)) hst hn2 (m := (k + (n - j))) (by omega) 0
 refine wl_run0 z z (x_clear z hrc) ?_
 refine wl_nil (tn (wp_seq (wrl (wv ((slcV ty_api_Hold.sz r0_0 0 (k + (n - j)))) z z z (wv ((slcV ty_api_Hold.sz r0_0 0 (k + (n - j)))) z z z (wl_nil (tn (wp_ret ?_))))))))
 refine post_ret (vs := [(slcV ty_api_Hold.sz r0_0 0 (k + (n - j)))]) results182 (rvs_cons (rv_tmp z) rvs_nil) ?_
 replace hst := hst.row_part (l := 0) (h := (k + (n - j))) (Nat.zero_le _) (by simp only [List.length_append, List.length_take, List.length_drop, List.length_replicate]; omega)
 rw [del_rows hn hlt hjn (List.length_replicate ..)] at hst
 exact ⟨_, z, (hst.own_close ((hr.take k).app (hr.drop j))).keep1⟩
}
}

theorem locks_Table_Drop_ref {w0 w : World} {I : HL} {R : SP} {a0 : (Option locks_Table)} {p0 : Value} {a1 : api_ID}  (hst : St w0 w I [objO at_locks_Table p0 a0] R) {r : (Bool × (Option locks_Table))} (hm : locks_Table_Drop a0 a1 = some r) :
  Calls prog 122 #[p0, .agg #[U6 a1.Session, U6 a1.Seq]] w fun e w' => e = .returned (.bool r.1) ∧ St w0 w' I [objO at_locks_Table p0 r.2] R := by {
 rcases a0 with _ | o0
 {
 obtain ⟨rfl, hst'⟩ := objO_none hst
 clear hst
 have hst := hst'
 clear hst'
 dsimp only [locks_Table_Drop] at hm
 refine calls_start (args := [.pointer none, .agg #[U6 a1.Session, U6 a1.Seq]]) func122 z ntmps122 (Nat.le_of_ble_eq_true z) ?_
 refine wp_seq (wrl ?_)
 obtain ⟨b262, w263, ew264, eb265, hst⟩ := hst.box [U6 a1.Session, U6 a1.Seq] 28
 refine wl_run (v := Pt b262 0) (w' := w263) z z (x_al (by kernel_rfl) ew264 eb265) ?_
 refine wv (.bool false) z z z (wl_nil (tn (wp_seq (wrl (wv (.pointer none) z z z (wv (.agg #[U6 a1.Session, U6 a1.Seq]) z z (x_loadN (cs := [U6 a1.Session, U6 a1.Seq]) z isAgg28 sizeOf28 (hst.bcs0 0 z)) ?_))))))
 replace hst := hst.objO_nil at_locks_Table
 obtain ⟨t268, ht269, hm⟩ := bind_some hm
 refine wc call135 [.pointer none, .agg #[U6 a1.Session, U6 a1.Seq]] z z z ?_
 refine (locks_Table_find_ref hst.to1 ht269).mono ?_
 rintro _ w270 ⟨rfl, hst⟩
 refine ⟨_, z, ?_⟩
 replace hst := hst.of1
 refine wv (.tuple #[I6 t268.1, .bool t268.2]) z z z (wv (.int .i64 t268.1) z z z (wv (.bool t268.2) z z z (wv (.int .i64 t268.1) z z z (wv (.bool t268.2) z z z (wl_nil (tn (wp_seq (wp_seq (wrl (wv (.bool t268.2) z z z (wl_nil (tn ?_))))))))))))
 refine bsplit t268.2 (fun hc273 => ?_) (fun hc273 => ?_)
 {
 replace hm := bif_t hc273 hm
 refine wp_ift (cvb hc273) ?_
 refine wrl (wv (.pointer none) z z z (wv (.pointer none) z z z ?_))
 cases hm
}
 {
 replace hm := bif_f hc273 hm
 refine wp_iff (cvb hc273) ?_
 refine wp_skip (tn (wp_seq (wrl ?_)))
 refine wv (.bool t268.2) z z z (wv (.bool t268.2) z z z (wl_nil (tn (wp_ret ?_))))
 replace hst := hst.objO_nil at_locks_Table
 obtain rfl := some_inj hm
 refine post_ret (vs := [.bool t268.2]) results122 (rvs_cons (rv_tmp z) rvs_nil) ?_
 exact ⟨z, hst.keep1⟩
}
}
 {
 replace hst := objO_get hst
 dsimp only [locks_Table_Drop] at hm
 refine calls_start (args := [p0, .agg #[U6 a1.Session, U6 a1.Seq]]) func122 z ntmps122 (Nat.le_of_ble_eq_true z) ?_
 refine wp_seq (wrl ?_)
 obtain ⟨b274, w275, ew276, eb277, hst⟩ := hst.box [U6 a1.Session, U6 a1.Seq] 28
 refine wl_run (v := Pt b274 0) (w' := w275) z z (x_al (by kernel_rfl) ew276 eb277) ?_
 refine wv (.bool false) z z z (wl_nil (tn (wp_seq (wrl (wv (p0) z z z (wv (.agg #[U6 a1.Session, U6 a1.Seq]) z z (x_loadN (cs := [U6 a1.Session, U6 a1.Seq]) z isAgg28 sizeOf28 (hst.bcs0 0 z)) ?_))))))
 replace hst := hst.pull1
 replace hst := objO_some hst
 obtain ⟨t279, ht280, hm⟩ := bind_some hm
 refine wc call135 [p0, .agg #[U6 a1.Session, U6 a1.Seq]] z z z ?_
 refine (locks_Table_find_ref hst.to1 ht280).mono ?_
 rintro _ w281 ⟨rfl, hst⟩
 refine ⟨_, z, ?_⟩
 replace hst := hst.of1
 replace hst := objO_get hst
 refine wv (.tuple #[I6 t279.1, .bool t279.2]) z z z (wv (.int .i64 t279.1) z z z (wv (.bool t279.2) z z z (wv (.int .i64 t279.1) z z z (wv (.bool t279.2) z z z (wl_nil (tn (wp_seq (wp_seq (wrl (wv (.bool t279.2) z z z (wl_nil (tn ?_))))))))))))
 refine bsplit t279.2 (fun hc284 => ?_) (fun hc284 => ?_)
 {
 replace hm := bif_t hc284 hm
 refine wp_ift (cvb hc284) ?_
 refine wrl (wv (p0) z z z (wv (p0) z z z ?_))
 obtain ⟨b285, v286, rfl, hst'⟩ := at_locks_Table_open hst
 clear hst
 have hst := hst'
 clear hst'
 refine wv (Pt b285 0) z z z (wv (Pt b285 0) z z (x_field z underlying203 z sizeOf125 z) (wv (v286) z z (x_load z isAgg125 (hst.bc0 z)) (wv (.int .i64 t279.1) z z z (wv (.int .i64 t279.1) z z z (wv (.int .i64 (i64.wrap (t279.1 + (1:Int)))) z z z ?_)))))
 replace hst := hst.pull1
 obtain ⟨t288, ht289, hm⟩ := bind_some hm
 refine wc call182 [v286, I6 t279.1, I6 (i64.wrap (t279.1 + (1:Int)))] z z z ?_
 refine (slices_Delete_api_Hold_api_Hold_ref hst.to1 ht289).mono ?_
 rintro _ w290 ⟨v293, rfl, hst⟩
 refine ⟨_, z, ?_⟩
 replace hst := hst.of1
 refine wv (Pt b285 0) z z z (wv (Pt b285 0) z z (x_field z underlying203 z sizeOf125 z) ?_)
 replace hst := hst.pull1
 obtain ⟨w295, hr296, hst⟩ := hst.boxStore1 (P := prog) (t := 125) (cs' := [v293]) 0 v293 (one_of_sliceV hst.sv1) sizeOf125 z z
 refine wl_unit z z (x_unit hr296) ?_
 refine wl_nil (tn (wp_seq (wrl (wv (.bool t279.2) z z z (wv (.bool t279.2) z z z (wl_nil (tn (wp_ret ?_))))))))
 replace hst := hst.pull1.pull1
 replace hst := at_locks_Table_close (pv := Pt b285 0) (x := ({ l := t288 } : locks_Table)) hst z
 replace hst := objO_some hst
 obtain rfl := some_inj hm
 refine post_ret (vs := [.bool t279.2]) results122 (rvs_cons (rv_tmp z) rvs_nil) ?_
 exact ⟨z, hst.keep1⟩
}
 {
 replace hm := bif_f hc284 hm
 refine wp_iff (cvb hc284) ?_
 refine wp_skip (tn (wp_seq (wrl ?_)))
 refine wv (.bool t279.2) z z z (wv (.bool t279.2) z z z (wl_nil (tn (wp_ret ?_))))
 replace hst := objO_some hst
 obtain rfl := some_inj hm
 refine post_ret (vs := [.bool t279.2]) results122 (rvs_cons (rv_tmp z) rvs_nil) ?_
 exact ⟨z, hst.keep1⟩
}
}
}

theorem slices_Insert_mvcc_row_mvcc_row_raw_ref {w0 w : World} {I : HL} {R : SP} {a0 : (List (List Value))} {r0_0 : Value} {a1 : Int} {a2 : (List (List Value))} {r2_0 : Value} (hst : St w0 w I [ownS (tyRaw 2) r0_0 a0, ownS (tyRaw 2) r2_0 a2] R) {r : (List (List Value))} (hm : slices_Insert_mvcc_row_mvcc_row_raw a0 a1 a2 = some r) :
  Calls prog 183 #[r0_0, I6 a1, r2_0] w fun e w' => ∃ (q0_0 : Value), e = .returned (q0_0) ∧ St w0 w' I [ownS (tyRaw 2) q0_0 r] R := by {
 unfold slices_Insert_mvcc_row_mvcc_row_raw at hm
 obtain ⟨hg, hm⟩ := gd_some hm
 obtain rfl := some_inj hm
 obtain ⟨hi0, hi1, hrm⟩ := insOK_of hg
 obtain ⟨k, rfl⟩ := Int.eq_ofNat_of_zero_le hi0
 have hsm := room_sum hrm
 have hk : k ≤ a0.length := by omega
 have hs : ∀ w : World, (sizeOf 240).run prog w = .ok (tyRaw 2).sz w := sizeOf240
 have hs0 : 0 < (tyRaw 2).sz := Nat.le_of_ble_eq_true rfl
 have hov : ∀ (args : Array Value) (w : World), (callFunc 205 args).run prog w = (Extern.SlicesOverlaps.overlaps #[199, 199] #[4] args >>= fun v => (pure (.value v) : Sem Next)).run prog w := by intro args w; kernel_rfl
 obtain ⟨css, hr, hst⟩ := hst.own_open
 replace hst := hst.pull1
 obtain ⟨dss, hq, hst⟩ := hst.own_open
 replace hst := hst.pull1
 obtain ⟨n, hn⟩ : ∃ n, css.length = n := ⟨_, rfl⟩
 obtain ⟨m, hm'⟩ : ∃ m, dss.length = m := ⟨_, rfl⟩
 have hln : a0.length = n := hr.1.trans hn
 have hlm : a2.length = m := hq.1.trans hm'
 rw [hln] at hsm hk
 rw [hlm] at hsm
 have hsv : SliceV r0_0 n := by have := hst.row_form.2; rwa [hn] at this
 have hsq : SliceV r2_0 m := by have := hst.pull1.row_form.2; rwa [hm'] at this
 have hoc := hr.ones
 have hoq := hq.ones
 have hw1 := wrap_add (a := n) (b := m) (by omega)
 have hw2 := wrap_add (a := k) (b := m) (by omega)
 have hw3 := wrap_sub (a := n + m) (b := k) (by omega) (by omega)
 have hrb := room_of (b := 32) hrm rfl
 rw [hln, hlm] at hrb
 refine calls_start (args := [r0_0, I6 (k : Int), r2_0]) func183 z ntmps183 (Nat.le_of_ble_eq_true z) ?_
 refine wp_seq (wrl (wv ((.slice none 0 0)) z z z (wl_nil (tn (wp_seq (wrl (wv (r0_0) z z z (wv (.int .i64 (k : Int)) z z z (wv ((slcV (tyRaw 2).sz r0_0 k n)) z z (x_slice (lo := (k : Nat)) (hi := (n : Nat)) underlying199 hs z hsv (by omega) (by omega) (by omega) .i64 .i64 (.inl z) (.inr ⟨z, z⟩)) (wl_nil (tn (wp_seq (wrl (wv (r2_0) z z z (wv (.int .i64 (m : Int)) z z (x_len z underlying199 hsq) (wv (.int .i64 (m : Int)) z z z (wl_nil (tn (wp_seq (wp_seq (wrl (wv (.int .i64 (m : Int)) z z z (wv (.bool ((m : Int) == (0:Int))) z z z ?_)))))))))))))))))))))))
 refine wl_nil (tn ?_)
 refine bsplit ((m : Int) == (0:Int)) (fun hc326 => ?_) (fun hc326 => ?_)
 {
 refine wp_ift (cvb hc326) ?_
 refine wp_seq (wrl (wv (r0_0) z z z (wv (r0_0) z z z (wl_nil (tn (wp_ret (then_r ?_)))))))
 refine post_ret (vs := [r0_0]) results183 (rvs_cons (rv_tmp z) rvs_nil) ?_
 rw [ins_nil (by rw [hlm]; exact hc326)]
 exact ⟨_, z, (hst.own_close hr).keep1⟩
}
 {
 refine wp_iff (cvb hc326) ?_
 have hm0 : m ≠ 0 := fun h => by rw [h] at hc326; cases hc326
 have hq0 : dss ≠ [] := fun h => hm0 (by rw [← hm', h]; rfl)
 refine wp_skip (tn (wp_seq (wrl ?_)))
 refine wv (r0_0) z z z (wv (.int .i64 (n : Int)) z z (x_len z underlying199 hsv) (wv (.int .i64 (n : Int)) z z z (wl_nil (tn (wp_seq (wp_seq (wrl (wv (.int .i64 (k : Int)) z z z (wv (.int .i64 (n : Int)) z z z (wv (.bool ((k : Int) == (n : Int))) z z z (wl_nil (tn ?_))))))))))))
 refine bsplit ((k : Int) == (n : Int)) (fun hc327 => ?_) (fun hc327 => ?_)
 {
 refine wp_ift (cvb hc327) ?_
 refine wp_seq (wrl (wv (r0_0) z z z (wv (r2_0) z z z ?_)))
 replace hst := (hst.own_close hr).pull1.own_close hq
 replace hst := hst.pull1
 obtain ⟨v2, w2, hra, hst⟩ := run_append elemN_199 underlying199 hst hst.src1 (room_of hrm z) 199
 refine wl_run (v := v2) (w' := w2) z z (x_append z z hra) ?_
 refine wv (v2) z z z (wl_nil (tn (wp_ret (then_r ?_))))
 refine post_ret (vs := [v2]) results183 (rvs_cons (rv_tmp z) rvs_nil) ?_
 rw [ins_end (by rw [hln]; exact hc327)]
 exact ⟨_, z, hst.keep1⟩
}
 {
 refine wp_iff (cvb hc327) ?_
 have hkn : k ≠ n := fun h => by rw [h] at hc327; simp at hc327
 have hn0 : 0 < n := by omega
 have hc0 : css ≠ [] := fun h => by rw [h] at hn; simp at hn; omega
 refine wp_skip (tn (wp_seq (wp_seq (wrl ?_))))
 refine wv (.int .i64 (n : Int)) z z z (wv (.int .i64 (m : Int)) z z z (wv (.int .i64 ((n + m : Nat) : Int)) z z (ok_cast hw1 z) (wv (r0_0) z z z (wv (.int .i64 (sCap r0_0 : Int)) z z (x_cap z underlying199 hsv) (wv (.bool (decide (((n + m : Nat) : Int) > (sCap r0_0 : Int)))) z z z (wl_nil (tn ?_)))))))
 refine bsplit (decide (((n + m : Nat) : Int) > (sCap r0_0 : Int))) (fun hc328 => ?_) (fun hc328 => ?_)
 {
 refine wp_ift (cvb hc328) ?_
 refine wp_seq (wrl (wv (r0_0) z z z (wv (.int .i64 (k : Int)) z z z (wv ((slcV (tyRaw 2).sz r0_0 0 k)) z z (x_slice (lo := (0 : Nat)) (hi := (k : Nat)) underlying199 hs z hsv (by omega) (by omega) (by omega) .i64 .i64 (.inr ⟨z, z⟩) (.inl z)) (wv (.int .i64 (n : Int)) z z z (wv (.int .i64 (m : Int)) z z z (wv (.int .i64 ((n + m : Nat) : Int)) z z (ok_cast hw1 z) (wv (.int .i64 (k : Int)) z z z (wv (.int .i64 ((n + m - k : Nat) : Int)) z z (ok_cast hw3 z) ?_)))))))))
 obtain ⟨v2, w2, hra, hs2, zss, hzl, hst⟩ := run_app0 elemN_199 underlying3 hst k (n + m - k) (by omega) (by have := of_decide_eq_true hc328; omega) (by rw [show k + (n + m - k) = n + m by omega]; exact hrb) hs0 199
 rw [show k + (n + m - k) = n + m by omega] at hs2
 refine wl_run (v := v2) (w' := w2) z z (x_append z z hra) ?_
 refine wv (v2) z z z (wl_nil (tn (wp_seq (wrl (wv (v2) z z z (wv (.int .i64 (k : Int)) z z z (wv ((slcV (tyRaw 2).sz v2 k (n + m))) z z (x_slice (lo := (k : Nat)) (hi := ((n + m) : Nat)) underlying199 hs z hs2 (by omega) (by omega) (by omega) .i64 .i64 (.inl z) (.inr ⟨z, z⟩)) (wv (r2_0) z z z ?_))))))))
 obtain ⟨w329, hr330, hst⟩ := run_copyRows (P := prog) (t2 := 199) (ty := 3) underlying199 hs hst hst.pull2 k m (N := n + m) (by first | omega | (simp only [List.length_append, List.length_take, List.length_drop]; omega)) (by first | omega | (simp only [List.length_append, List.length_take, List.length_drop]; omega)) (by omega) (by first | omega | (simp only [List.length_append, List.length_take, List.length_drop]; omega)) (ones_take hoq _)
 refine wl_run (v := .int .i64 (m : Nat)) (w' := w329) z z (x_copy z z hr330) ?_
 refine wl_nil (tn (wp_seq ?_))
 refine wp_region_St hst 9 [0, 1, 2, 3, 4, 5, 6, 7, 8] [0, 0, 0, 6, 15, 0, 0, 96, 255] [] z (by kernel_rfl) (by kernel_rfl) Tryz.mixed (by kernel_rfl) ?_
 refine wsr (v2) 0 z z z (by kernel_rfl) (fun w hst => z) (wsr (.int .i64 (k : Int)) 1 z z z (by kernel_rfl) (fun w hst => z) (wsr (.int .i64 (m : Int)) 2 z z z (by kernel_rfl) (fun w hst => z) (wsr (.int .i64 ((k + m : Nat) : Int)) 3 z z z (by kernel_rfl) (fun w hst => ok_cast hw2 z) (wsr ((slcV (tyRaw 2).sz v2 (k + m) (n + m))) 4 z z z (by kernel_rfl) (fun w hst => x_slice (lo := ((k + m) : Nat)) (hi := ((n + m) : Nat)) underlying199 hs z hs2 (by omega) (by omega) (by omega) .i64 .i64 (.inl z) (.inr ⟨z, z⟩)) (wsr (r0_0) 5 z z z (by kernel_rfl) (fun w hst => z) (wsr (.int .i64 (k : Int)) 6 z z z (by kernel_rfl) (fun w hst => z) (wsr ((slcV (tyRaw 2).sz r0_0 k n)) 7 z z z (by kernel_rfl) (fun w hst => x_slice (lo := (k : Nat)) (hi := (n : Nat)) underlying199 hs z hsv (by omega) (by omega) (by omega) .i64 .i64 (.inl z) (.inr ⟨z, z⟩)) ?_)))))))
 refine ws_e1 8 (by kernel_rfl) ?_
 refine nxe [] (by kernel_rfl) z z ?_
 clear hst
 intro w hst
 obtain ⟨w331, hr332, hst⟩ := run_copyRows (P := prog) (t2 := 199) (ty := 3) underlying199 hs hst (hst.pull1.row_part (l := k) (h := n) hk (by omega)) (k + m) (n - k) (N := n + m) (by first | omega | (simp only [List.length_append, List.length_take, List.length_drop]; omega)) (by first | omega | (simp only [List.length_append, List.length_take, List.length_drop]; omega)) (by omega) (by first | omega | (simp only [List.length_append, List.length_take, List.length_drop]; omega)) (ones_take (ones_drop (ones_take hoc _) _) _)
 refine we_run (v := .int .i64 ((n - k) : Nat)) (w' := w331) z (x_copy z z hr332) ?_
 refine ws_next (pend' := []) hst (by kernel_rfl) pk_nil ?_
 refine ws_nil ?_
 intro w hst
 refine tn (wp_seq (wrl (wv (v2) z z z (wv (v2) z z z (wl_nil (tn (wp_ret (then_r ?_))))))))
 refine post_ret (vs := [v2]) results183 (rvs_cons (rv_tmp z) rvs_nil) ?_
 rw [grow_rows hn hm' hk hzl] at hst
 exact ⟨_, z, (hst.own_close ((hr.take k).app (hq.app (hr.drop k)))).keep1⟩
}
 {
 refine wp_iff (cvb hc328) ?_
 have hup : n + m ≤ sCap r0_0 := by have := of_decide_eq_false hc328; omega
 obtain ⟨ess, hel, hem, hst'⟩ := hst.row_up (n + m) (by omega) hup hc0
 rw [show n + m - css.length = m by omega] at hel
 have hs2 : SliceV (upV r0_0 (n + m)) (n + m) := by have := hst'.row_form.2; rwa [List.length_append, hn, hel] at this
 clear hst
 have hst := hst'
 clear hst'
 refine wp_skip (tn (wp_seq (wrl ?_)))
 refine wv (r0_0) z z z (wv (.int .i64 (n : Int)) z z z (wv (.int .i64 (m : Int)) z z z (wv (.int .i64 ((n + m : Nat) : Int)) z z (ok_cast hw1 z) (wv ((upV r0_0 (n + m))) z z (x_sliceUp underlying199 hs z hsv z hup hn0) (wv ((upV r0_0 (n + m))) z z z (wl_nil (tn (wp_seq (wp_seq (wrl (wv (r2_0) z z z (wv ((upV r0_0 (n + m))) z z z (wv (.int .i64 (k : Int)) z z z (wv (.int .i64 (m : Int)) z z z (wv (.int .i64 ((k + m : Nat) : Int)) z z (ok_cast hw2 z) (wv ((slcV (tyRaw 2).sz (upV r0_0 (n + m)) (k + m) (n + m))) z z (x_slice (lo := ((k + m) : Nat)) (hi := ((n + m) : Nat)) underlying199 hs z hs2 (by omega) (by omega) (by omega) .i64 .i64 (.inl z) (.inr ⟨z, z⟩)) ?_))))))))))))))))
 refine wv (.bool false) z z (x_ext z z z (hov _) (run_overlaps z underlying199 hs hst.pull1 (k + m) (N := n + m) (by rw [List.length_append]; omega) (by omega) hq0 hs0)) (wv (.bool true) z z z (wl_nil (tn ?_)))
 refine wp_ift z ?_
 refine wp_seq ?_
 refine wp_region_St hst 9 [0, 1, 2, 3, 4, 5, 6, 7, 8] [0, 0, 0, 6, 15, 0, 0, 96, 255] [] z (by kernel_rfl) (by kernel_rfl) Tryz.mixed (by kernel_rfl) ?_
 refine wsr ((upV r0_0 (n + m))) 0 z z z (by kernel_rfl) (fun w hst => z) (wsr (.int .i64 (k : Int)) 1 z z z (by kernel_rfl) (fun w hst => z) (wsr (.int .i64 (m : Int)) 2 z z z (by kernel_rfl) (fun w hst => z) (wsr (.int .i64 ((k + m : Nat) : Int)) 3 z z z (by kernel_rfl) (fun w hst => ok_cast hw2 z) (wsr ((slcV (tyRaw 2).sz (upV r0_0 (n + m)) (k + m) (n + m))) 4 z z z (by kernel_rfl) (fun w hst => x_slice (lo := ((k + m) : Nat)) (hi := ((n + m) : Nat)) underlying199 hs z hs2 (by omega) (by omega) (by omega) .i64 .i64 (.inl z) (.inr ⟨z, z⟩)) (wsr ((upV r0_0 (n + m))) 5 z z z (by kernel_rfl) (fun w hst => z) (wsr (.int .i64 (k : Int)) 6 z z z (by kernel_rfl) (fun w hst => z) (wsr ((slcV (tyRaw 2).sz (upV r0_0 (n + m)) k (n + m))) 7 z z z (by kernel_rfl) (fun w hst => x_slice (lo := (k : Nat)) (hi := ((n + m) : Nat)) underlying199 hs z hs2 (by omega) (by omega) (by omega) .i64 .i64 (.inl z) (.inr ⟨z, z⟩)) ?_)))))))
 refine ws_e1 8 (by kernel_rfl) ?_
 refine nxe [] (by kernel_rfl) z z ?_
 clear hst
 intro w hst
 obtain ⟨w333, hr334, hst⟩ := run_copyRows (P := prog) (t2 := 199) (ty := 3) underlying199 hs hst (hst.row_part (l := k) (h := n + m) (by omega) (by rw [List.length_append]; omega)) (k + m) (n - k) (N := n + m) (by first | omega | (simp only [List.length_append, List.length_take, List.length_drop]; omega)) (by first | omega | (simp only [List.length_append, List.length_take, List.length_drop]; omega)) (by omega) (by first | omega | (simp only [List.length_append, List.length_take, List.length_drop]; omega)) (by rw [stay_src hn hm' hk hel]; exact ones_drop hoc _)
 refine we_run (v := .int .i64 ((n - k) : Nat)) (w' := w333) z (x_copy z z hr334) ?_
 refine ws_next (pend' := []) hst (by kernel_rfl) pk_nil ?_
 refine ws_nil ?_
 intro w hst
 refine tn (wp_seq (wrl (wv ((upV r0_0 (n + m))) z z z (wv (.int .i64 (k : Int)) z z z (wv ((slcV (tyRaw 2).sz (upV r0_0 (n + m)) k (n + m))) z z (x_slice (lo := (k : Nat)) (hi := ((n + m) : Nat)) underlying199 hs z hs2 (by omega) (by omega) (by omega) .i64 .i64 (.inl z) (.inr ⟨z, z⟩)) (wv (r2_0) z z z ?_))))))
 obtain ⟨w335, hr336, hst⟩ := run_copyRows (P := prog) (t2 := 199) (ty := 3) underlying199 hs hst hst.pull1 k m (N := n + m) (by first | omega | (simp only [List.length_append, List.length_take, List.length_drop]; omega)) (by first | omega | (simp only [List.length_append, List.length_take, List.length_drop]; omega)) (by omega) (by first | omega | (simp only [List.length_append, List.length_take, List.length_drop]; omega)) (ones_take hoq _)
 refine wl_run (v := .int .i64 (m : Nat)) (w' := w335) z z (x_copy z z hr336) ?_
 refine wl_nil (tn (wp_seq (wrl (wv ((upV r0_0 (n + m))) z z z (wv ((upV r0_0 (n + m))) z z z (wl_nil (tn (wp_ret (then_r ?_)))))))))
 refine post_ret (vs := [(upV r0_0 (n + m))]) results183 (rvs_cons (rv_tmp z) rvs_nil) ?_
 rw [stay_rows hn hm' hk hel] at hst
 exact ⟨_, z, (hst.own_close ((hr.take k).app (hq.app (hr.drop k)))).keep1⟩
}
}
}
}

theorem slices_Insert_mvcc_row_mvcc_row_ref {w0 w : World} {I : HL} {R : SP} {a0 : (List mvcc_row)} {r0_0 : Value} {a1 : Int} {a2 : (List mvcc_row)} {r2_0 : Value} (hst : St w0 w I [ownN nest_mvcc_row r0_0 a0, ownN nest_mvcc_row r2_0 a2] R) {r : (List mvcc_row)} (hm : slices_Insert_mvcc_row_mvcc_row a0 a1 a2 = some r) :
  Calls prog 183 #[r0_0, I6 a1, r2_0] w fun e w' => ∃ (q0_0 : Value), e = .returned (q0_0) ∧ St w0 w' I [ownN nest_mvcc_row q0_0 r] R := by {
 unfold slices_Insert_mvcc_row_mvcc_row at hm
 obtain ⟨hg, hm⟩ := gd_some hm
 obtain rfl := some_inj hm
 obtain ⟨vs, us, h1, k1, hst⟩ := hst.nest_two
 refine Calls.mono (slices_Insert_mvcc_row_mvcc_row_raw_ref hst.to2 (r := ins (nest_mvcc_row.cs a0 vs) a1 (nest_mvcc_row.cs a2 us)) (by unfold slices_Insert_mvcc_row_mvcc_row_raw; rw [insOK_cs h1 k1, hg]; rfl)) ?_
 rintro _ w' ⟨q, rfl, hst'⟩
 exact ⟨_, z, (hst'.of1.nest_ins h1 k1).keep1⟩
}

theorem mvcc_ahead_ref {w0 w : World} {I : HL} {R : SP} {a0 : mvcc_Version} {r0_0 : Value} {a1 : Int} {a2 : Int} (f0_0 : Rd (tyInt .u8) R I r0_0 a0.Val) (hst : St w0 w I [] R) {r : (Bool)} (hm : mvcc_ahead a0 a1 a2 = some r) :
  Calls prog 185 #[.agg #[U6 a0.Epoch, U6 a0.Index, .bool a0.Del, r0_0], U6 a1, U6 a2] w fun e w' => e = .returned (.bool r) ∧ St w0 w' I [] R := by {
 unfold mvcc_ahead at hm
 refine calls_start (args := [.agg #[U6 a0.Epoch, U6 a0.Index, .bool a0.Del, r0_0], U6 a1, U6 a2]) func185 z ntmps185 (Nat.le_of_ble_eq_true z) ?_
 refine wp_seq (wrl ?_)
 obtain ⟨b387, w388, ew389, eb390, hst⟩ := hst.box [U6 a0.Epoch, U6 a0.Index, .bool a0.Del, r0_0] 214
 refine wl_run (v := Pt b387 0) (w' := w388) z z (x_al (by kernel_rfl) ew389 eb390) ?_
 refine wv (.bool false) z z z (wl_nil (tn (wp_seq (wrl (wv (Pt b387 0) z z (x_field z underlying214 z sizeOf26 z) (wv (.int .u64 a0.Epoch) z z (x_load z isAgg26 (hst.bc0 z)) (wv (.int .u64 a1) z z z (wv (.bool (decide (a0.Epoch < a1))) z z z (wv (.bool (decide (a0.Epoch < a1))) z z z ?_)))))))))
 refine bsplit (decide (a0.Epoch < a1)) (fun hc392 => ?_) (fun hc392 => ?_)
 {
 replace hm := bif_t hc392 hm
 refine wo hc392 z z z z z z (wo hc392 z z z z z z (wo hc392 z z z z z z (wo hc392 z z z z z z (wo hc392 z z z z z z (wl_off (wanted_undef z z z z) z (wl_off (wanted_undef z z z z) z (wl_off (wanted_undef z z z z) z (wl_off (wanted_undef z z z z) z (wo hc392 z z z z z z (wv (.bool true) z z (x_pick_t hc392 z z) (wv (.bool true) z z z (wl_nil (tn (wp_ret ?_))))))))))))))
 obtain rfl := some_inj hm
 refine post_ret (vs := [.bool true]) results185 (rvs_cons (rv_tmp z) rvs_nil) ?_
 exact ⟨z, hst.keep0⟩
}
 {
 replace hm := bif_f hc392 hm
 refine wv (Pt b387 0) ((wanted_eq z z z (cvb hc392)).trans z) z (x_field z underlying214 z sizeOf26 z) (wv (.int .u64 a0.Epoch) ((wanted_eq z z z (cvb hc392)).trans z) z (x_load z isAgg26 (hst.bc0 z)) (wv (.int .u64 a1) ((wanted_eq z z z (cvb hc392)).trans z) z z (wv (.bool (a0.Epoch == a1)) ((wanted_eq z z z (cvb hc392)).trans z) z z (wv (.bool (a0.Epoch == a1)) ((wanted_eq z z z (cvb hc392)).trans z) z z ?_))))
 refine bsplit (a0.Epoch == a1) (fun hc393 => ?_) (fun hc393 => ?_)
 {
 replace hm := bif_t hc393 hm
 refine wv (Pt b387 1) ((wanted_eq z z z (cvb hc393)).trans z) z (x_field z underlying214 z sizeOf26 z) (wv (.int .u64 a0.Index) ((wanted_eq z z z (cvb hc393)).trans z) z (x_load z isAgg26 (hst.bc0 z)) (wv (.int .u64 a2) ((wanted_eq z z z (cvb hc393)).trans z) z z (wv (.bool (decide (a0.Index < a2))) ((wanted_eq z z z (cvb hc393)).trans z) z z (wv (.bool (decide (a0.Index < a2))) ((wanted_eq z z z (cvb hc392)).trans z) z (x_pick_t hc393 z z) (wv (.bool (decide (a0.Index < a2))) z z (x_pick_f hc392 z z) (wv (.bool (decide (a0.Index < a2))) z z z (wl_nil (tn (wp_ret ?_)))))))))
 obtain rfl := some_inj hm
 refine post_ret (vs := [.bool (decide (a0.Index < a2))]) results185 (rvs_cons (rv_tmp z) rvs_nil) ?_
 exact ⟨z, hst.keep0⟩
}
 {
 replace hm := bif_f hc393 hm
 refine wo hc393 z z z z z z (wo hc393 z z z z z z (wo hc393 z z z z z z (wo hc393 z z z z z z (wv (.bool false) ((wanted_eq z z z (cvb hc392)).trans z) z (x_pick_f hc393 z z) (wv (.bool false) z z (x_pick_f hc392 z z) (wv (.bool false) z z z (wl_nil (tn (wp_ret ?_)))))))))
 obtain rfl := some_inj hm
 refine post_ret (vs := [.bool false]) results185 (rvs_cons (rv_tmp z) rvs_nil) ?_
 exact ⟨z, hst.keep0⟩
}
}
}

theorem slices_Insert_mvcc_Version_mvcc_Version_ref {w0 w : World} {I : HL} {R : SP} {a0 : (List mvcc_Version)} {r0_0 : Value} {a1 : Int} {a2 : (List mvcc_Version)} {r2_0 : Value} (hst : St w0 w I [ownS ty_mvcc_Version r0_0 a0, ownS ty_mvcc_Version r2_0 a2] R) {r : (List mvcc_Version)} (hm : slices_Insert_mvcc_Version_mvcc_Version a0 a1 a2 = some r) :
  Calls prog 186 #[r0_0, I6 a1, r2_0] w fun e w' => ∃ (q0_0 : Value), e = .returned (q0_0) ∧ St w0 w' I [ownS ty_mvcc_Version q0_0 r] R := by {
 unfold slices_Insert_mvcc_Version_mvcc_Version at hm
 obtain ⟨hg, hm⟩ := gd_some hm
 obtain rfl := some_inj hm
 obtain ⟨hi0, hi1, hrm⟩ := insOK_of hg
 obtain ⟨k, rfl⟩ := Int.eq_ofNat_of_zero_le hi0
 have hsm := room_sum hrm
 have hk : k ≤ a0.length := by omega
 have hs : ∀ w : World, (sizeOf 214).run prog w = .ok ty_mvcc_Version.sz w := sizeOf214
 have hs0 : 0 < ty_mvcc_Version.sz := Nat.le_of_ble_eq_true rfl
 have hov : ∀ (args : Array Value) (w : World), (callFunc 207 args).run prog w = (Extern.SlicesOverlaps.overlaps #[238, 238] #[4] args >>= fun v => (pure (.value v) : Sem Next)).run prog w := by intro args w; kernel_rfl
 obtain ⟨css, hr, hst⟩ := hst.own_open
 replace hst := hst.pull1
 obtain ⟨dss, hq, hst⟩ := hst.own_open
 replace hst := hst.pull1
 obtain ⟨n, hn⟩ : ∃ n, css.length = n := ⟨_, rfl⟩
 obtain ⟨m, hm'⟩ : ∃ m, dss.length = m := ⟨_, rfl⟩
 have hln : a0.length = n := hr.1.trans hn
 have hlm : a2.length = m := hq.1.trans hm'
 rw [hln] at hsm hk
 rw [hlm] at hsm
 have hsv : SliceV r0_0 n := by have := hst.row_form.2; rwa [hn] at this
 have hsq : SliceV r2_0 m := by have := hst.pull1.row_form.2; rwa [hm'] at this
 have hoc := hr.ones
 have hoq := hq.ones
 have hw1 := wrap_add (a := n) (b := m) (by omega)
 have hw2 := wrap_add (a := k) (b := m) (by omega)
 have hw3 := wrap_sub (a := n + m) (b := k) (by omega) (by omega)
 have hrb := room_of (b := 48) hrm rfl
 rw [hln, hlm] at hrb
 refine calls_start (args := [r0_0, I6 (k : Int), r2_0]) func186 z ntmps186 (Nat.le_of_ble_eq_true z) ?_
 refine wp_seq (wrl (wv ((.slice none 0 0)) z z z (wl_nil (tn (wp_seq (wrl (wv (r0_0) z z z (wv (.int .i64 (k : Int)) z z z (wv ((slcV ty_mvcc_Version.sz r0_0 k n)) z z (x_slice (lo := (k : Nat)) (hi := (n : Nat)) underlying238 hs z hsv (by omega) (by omega) (by omega) .i64 .i64 (.inl z) (.inr ⟨z, z⟩)) (wl_nil (tn (wp_seq (wrl (wv (r2_0) z z z (wv (.int .i64 (m : Int)) z z (x_len z underlying238 hsq) (wv (.int .i64 (m : Int)) z z z (wl_nil (tn (wp_seq (wp_seq (wrl (wv (.int .i64 (m : Int)) z z z (wv (.bool ((m : Int) == (0:Int))) z z z ?_)))))))))))))))))))))))
 refine wl_nil (tn ?_)
 refine bsplit ((m : Int) == (0:Int)) (fun hc505 => ?_) (fun hc505 => ?_)
 {
 refine wp_ift (cvb hc505) ?_
 refine wp_seq (wrl (wv (r0_0) z z z (wv (r0_0) z z z (wl_nil (tn (wp_ret (then_r ?_)))))))
 refine post_ret (vs := [r0_0]) results186 (rvs_cons (rv_tmp z) rvs_nil) ?_
 rw [ins_nil (by rw [hlm]; exact hc505)]
 exact ⟨_, z, (hst.own_close hr).keep1⟩
}
 {
 refine wp_iff (cvb hc505) ?_
 have hm0 : m ≠ 0 := fun h => by rw [h] at hc505; cases hc505
 have hq0 : dss ≠ [] := fun h => hm0 (by rw [← hm', h]; rfl)
 refine wp_skip (tn (wp_seq (wrl ?_)))
 refine wv (r0_0) z z z (wv (.int .i64 (n : Int)) z z (x_len z underlying238 hsv) (wv (.int .i64 (n : Int)) z z z (wl_nil (tn (wp_seq (wp_seq (wrl (wv (.int .i64 (k : Int)) z z z (wv (.int .i64 (n : Int)) z z z (wv (.bool ((k : Int) == (n : Int))) z z z (wl_nil (tn ?_))))))))))))
 refine bsplit ((k : Int) == (n : Int)) (fun hc506 => ?_) (fun hc506 => ?_)
 {
 refine wp_ift (cvb hc506) ?_
 refine wp_seq (wrl (wv (r0_0) z z z (wv (r2_0) z z z ?_)))
 replace hst := (hst.own_close hr).pull1.own_close hq
 replace hst := hst.pull1
 obtain ⟨v2, w2, hra, hst⟩ := run_append elem_238 underlying238 hst hst.src1 (room_of hrm z) 238
 refine wl_run (v := v2) (w' := w2) z z (x_append z z hra) ?_
 refine wv (v2) z z z (wl_nil (tn (wp_ret (then_r ?_))))
 refine post_ret (vs := [v2]) results186 (rvs_cons (rv_tmp z) rvs_nil) ?_
 rw [ins_end (by rw [hln]; exact hc506)]
 exact ⟨_, z, hst.keep1⟩
}
 {
 refine wp_iff (cvb hc506) ?_
 have hkn : k ≠ n := fun h => by rw [h] at hc506; simp at hc506
 have hn0 : 0 < n := by omega
 have hc0 : css ≠ [] := fun h => by rw [h] at hn; simp at hn; omega
 refine wp_skip (tn (wp_seq (wp_seq (wrl ?_))))
 refine wv (.int .i64 (n : Int)) z z z (wv (.int .i64 (m : Int)) z z z (wv (.int .i64 ((n + m : Nat) : Int)) z z (ok_cast hw1 z) (wv (r0_0) z z z (wv (.int .i64 (sCap r0_0 : Int)) z z (x_cap z underlying238 hsv) (wv (.bool (decide (((n + m : Nat) : Int) > (sCap r0_0 : Int)))) z z z (wl_nil (tn ?_)))))))
 refine bsplit (decide (((n + m : Nat) : Int) > (sCap r0_0 : Int))) (fun hc507 => ?_) (fun hc507 => ?_)
 {
 refine wp_ift (cvb hc507) ?_
 refine wp_seq (wrl (wv (r0_0) z z z (wv (.int .i64 (k : Int)) z z z (wv ((slcV ty_mvcc_Version.sz r0_0 0 k)) z z (x_slice (lo := (0 : Nat)) (hi := (k : Nat)) underlying238 hs z hsv (by omega) (by omega) (by omega) .i64 .i64 (.inr ⟨z, z⟩) (.inl z)) (wv (.int .i64 (n : Int)) z z z (wv (.int .i64 (m : Int)) z z z (wv (.int .i64 ((n + m : Nat) : Int)) z z (ok_cast hw1 z) (wv (.int .i64 (k : Int)) z z z (wv (.int .i64 ((n + m - k : Nat) : Int)) z z (ok_cast hw3 z) ?_)))))))))
 obtain ⟨v2, w2, hra, hs2, zss, hzl, hst⟩ := run_app0 elem_238 underlying3 hst k (n + m - k) (by omega) (by have := of_decide_eq_true hc507; omega) (by rw [show k + (n + m - k) = n + m by omega]; exact hrb) hs0 238
 rw [show k + (n + m - k) = n + m by omega] at hs2
 refine wl_run (v := v2) (w' := w2) z z (x_append z z hra) ?_
 refine wv (v2) z z z (wl_nil (tn (wp_seq (wrl (wv (v2) z z z (wv (.int .i64 (k : Int)) z z z (wv ((slcV ty_mvcc_Version.sz v2 k (n + m))) z z (x_slice (lo := (k : Nat)) (hi := ((n + m) : Nat)) underlying238 hs z hs2 (by omega) (by omega) (by omega) .i64 .i64 (.inl z) (.inr ⟨z, z⟩)) (wv (r2_0) z z z ?_))))))))
 obtain ⟨w508, hr509, hst⟩ := run_copyRows (P := prog) (t2 := 238) (ty := 3) underlying238 hs hst hst.pull2 k m (N := n + m) (by first | omega | (simp only [List.length_append, List.length_take, List.length_drop]; omega)) (by first | omega | (simp only [List.length_append, List.length_take, List.length_drop]; omega)) (by omega) (by first | omega | (simp only [List.length_append, List.length_take, List.length_drop]; omega)) (ones_take hoq _)
 refine wl_run (v := .int .i64 (m : Nat)) (w' := w508) z z (x_copy z z hr509) ?_
 refine wl_nil (tn (wp_seq ?_))
 refine wp_region_St hst 9 [0, 1, 2, 3, 4, 5, 6, 7, 8] [0, 0, 0, 6, 15, 0, 0, 96, 255] [] z (by kernel_rfl) (by kernel_rfl) Tryz.mixed (by kernel_rfl) ?_
 refine wsr (v2) 0 z z z (by kernel_rfl) (fun w hst => z) (wsr (.int .i64 (k : Int)) 1 z z z (by kernel_rfl) (fun w hst => z) (wsr (.int .i64 (m : Int)) 2 z z z (by kernel_rfl) (fun w hst => z) (wsr (.int .i64 ((k + m : Nat) : Int)) 3 z z z (by kernel_rfl) (fun w hst => ok_cast hw2 z) (wsr ((slcV ty_mvcc_Version.sz v2 (k + m) (n + m))) 4 z z z (by kernel_rfl) (fun w hst => x_slice (lo := ((k + m) : Nat)) (hi := ((n + m) : Nat)) underlying238 hs z hs2 (by omega) (by omega) (by omega) .i64 .i64 (.inl z) (.inr ⟨z, z⟩)) (wsr (r0_0) 5 z z z (by kernel_rfl) (fun w hst => z) (wsr (.int .i64 (k : Int)) 6 z z z (by kernel_rfl) (fun w hst => z) (wsr ((slcV ty_mvcc_Version.sz r0_0 k n)) 7 z z z (by kernel_rfl) (fun w hst => x_slice (lo := (k : Nat)) (hi := (n : Nat)) underlying238 hs z hsv (by omega) (by omega) (by omega) .i64 .i64 (.inl z) (.inr ⟨z, z⟩)) ?_)))))))
 refine ws_e1 8 (by kernel_rfl) ?_
 refine nxe [] (by kernel_rfl) z z ?_
 clear hst
 intro w hst
 obtain ⟨w510, hr511, hst⟩ := run_copyRows (P := prog) (t2 := 238) (ty := 3) underlying238 hs hst (hst.pull1.row_part (l := k) (h := n) hk (by omega)) (k + m) (n - k) (N := n + m) (by first | omega | (simp only [List.length_append, List.length_take, List.length_drop]; omega)) (by first | omega | (simp only [List.length_append, List.length_take, List.length_drop]; omega)) (by omega) (by first | omega | (simp only [List.length_append, List.length_take, List.length_drop]; omega)) (ones_take (ones_drop (ones_take hoc _) _) _)
 refine we_run (v := .int .i64 ((n - k) : Nat)) (w' := w510) z (x_copy z z hr511) ?_
 refine ws_next (pend' := []) hst (by kernel_rfl) pk_nil ?_
 refine ws_nil ?_
 intro w hst
 refine tn (wp_seq (wrl (wv (v2) z z z (wv (v2) z z z (wl_nil (tn (wp_ret (then_r ?_))))))))
 refine post_ret (vs := [v2]) results186 (rvs_cons (rv_tmp z) rvs_nil) ?_
 rw [grow_rows hn hm' hk hzl] at hst
 exact ⟨_, z, (hst.own_close ((hr.take k).app (hq.app (hr.drop k)))).keep1⟩
}
 {
 refine wp_iff (cvb hc507) ?_
 have hup : n + m ≤ sCap r0_0 := by have := of_decide_eq_false hc507; omega
 obtain ⟨ess, hel, hem, hst'⟩ := hst.row_up (n + m) (by omega) hup hc0
 rw [show n + m - css.length = m by omega] at hel
 have hs2 : SliceV (upV r0_0 (n + m)) (n + m) := by have := hst'.row_form.2; rwa [List.length_append, hn, hel] at this
 clear hst
 have hst := hst'
 clear hst'
 refine wp_skip (tn (wp_seq (wrl ?_)))
 refine wv (r0_0) z z z (wv (.int .i64 (n : Int)) z z z (wv (.int .i64 (m : Int)) z z z (wv (.int .i64 ((n + m : Nat) : Int)) z z (ok_cast hw1 z) (wv ((upV r0_0 (n + m))) z z (x_sliceUp underlying238 hs z hsv z hup hn0) (wv ((upV r0_0 (n + m))) z z z (wl_nil (tn (wp_seq (wp_seq (wrl (wv (r2_0) z z z (wv ((upV r0_0 (n + m))) z z z (wv (.int .i64 (k : Int)) z z z (wv (.int .i64 (m : Int)) z z z (wv (.int .i64 ((k + m : Nat) : Int)) z z (ok_cast hw2 z) (wv ((slcV ty_mvcc_Version.sz (upV r0_0 (n + m)) (k + m) (n + m))) z z (x_slice (lo := ((k + m) : Nat)) (hi := ((n + m) : Nat)) underlying238 hs z hs2 (by omega) (by omega) (by omega) .i64 .i64 (.inl z) (.inr ⟨z, z⟩)) ?_))))))))))))))))
 refine wv (.bool false) z z (x_ext z z z (hov _) (run_overlaps z underlying238 hs hst.pull1 (k + m) (N := n + m) (by rw [List.length_append]; omega) (by omega) hq0 hs0)) (wv (.bool true) z z z (wl_nil (tn ?_)))
 refine wp_ift z ?_
 refine wp_seq ?_
 refine wp_region_St hst 9 [0, 1, 2, 3, 4, 5, 6, 7, 8] [0, 0, 0, 6, 15, 0, 0, 96, 255] [] z (by kernel_rfl) (by kernel_rfl) Tryz.mixed (by kernel_rfl) ?_
 refine wsr ((upV r0_0 (n + m))) 0 z z z (by kernel_rfl) (fun w hst => z) (wsr (.int .i64 (k : Int)) 1 z z z (by kernel_rfl) (fun w hst => z) (wsr (.int .i64 (m : Int)) 2 z z z (by kernel_rfl) (fun w hst => z) (wsr (.int .i64 ((k + m : Nat) : Int)) 3 z z z (by kernel_rfl) (fun w hst => ok_cast hw2 z) (wsr ((slcV ty_mvcc_Version.sz (upV r0_0 (n + m)) (k + m) (n + m))) 4 z z z (by kernel_rfl) (fun w hst => x_slice (lo := ((k + m) : Nat)) (hi := ((n + m) : Nat)) underlying238 hs z hs2 (by omega) (by omega) (by omega) .i64 .i64 (.inl z) (.inr ⟨z, z⟩)) (wsr ((upV r0_0 (n + m))) 5 z z z (by kernel_rfl) (fun w hst => z) (wsr (.int .i64 (k : Int)) 6 z z z (by kernel_rfl) (fun w hst => z) (wsr ((slcV ty_mvcc_Version.sz (upV r0_0 (n + m)) k (n + m))) 7 z z z (by kernel_rfl) (fun w hst => x_slice (lo := (k : Nat)) (hi := ((n + m) : Nat)) underlying238 hs z hs2 (by omega) (by omega) (by omega) .i64 .i64 (.inl z) (.inr ⟨z, z⟩)) ?_)))))))
 refine ws_e1 8 (by kernel_rfl) ?_
 refine nxe [] (by kernel_rfl) z z ?_
 clear hst
 intro w hst
 obtain ⟨w512, hr513, hst⟩ := run_copyRows (P := prog) (t2 := 238) (ty := 3) underlying238 hs hst (hst.row_part (l := k) (h := n + m) (by omega) (by rw [List.length_append]; omega)) (k + m) (n - k) (N := n + m) (by first | omega | (simp only [List.length_append, List.length_take, List.length_drop]; omega)) (by first | omega | (simp only [List.length_append, List.length_take, List.length_drop]; omega)) (by omega) (by first | omega | (simp only [List.length_append, List.length_take, List.length_drop]; omega)) (by rw [stay_src hn hm' hk hel]; exact ones_drop hoc _)
 refine we_run (v := .int .i64 ((n - k) : Nat)) (w' := w512) z (x_copy z z hr513) ?_
 refine ws_next (pend' := []) hst (by kernel_rfl) pk_nil ?_
 refine ws_nil ?_
 intro w hst
 refine tn (wp_seq (wrl (wv ((upV r0_0 (n + m))) z z z (wv (.int .i64 (k : Int)) z z z (wv ((slcV ty_mvcc_Version.sz (upV r0_0 (n + m)) k (n + m))) z z (x_slice (lo := (k : Nat)) (hi := ((n + m) : Nat)) underlying238 hs z hs2 (by omega) (by omega) (by omega) .i64 .i64 (.inl z) (.inr ⟨z, z⟩)) (wv (r2_0) z z z ?_))))))
 obtain ⟨w514, hr515, hst⟩ := run_copyRows (P := prog) (t2 := 238) (ty := 3) underlying238 hs hst hst.pull1 k m (N := n + m) (by first | omega | (simp only [List.length_append, List.length_take, List.length_drop]; omega)) (by first | omega | (simp only [List.length_append, List.length_take, List.length_drop]; omega)) (by omega) (by first | omega | (simp only [List.length_append, List.length_take, List.length_drop]; omega)) (ones_take hoq _)
 refine wl_run (v := .int .i64 (m : Nat)) (w' := w514) z z (x_copy z z hr515) ?_
 refine wl_nil (tn (wp_seq (wrl (wv ((upV r0_0 (n + m))) z z z (wv ((upV r0_0 (n + m))) z z z (wl_nil (tn (wp_ret (then_r ?_)))))))))
 refine post_ret (vs := [(upV r0_0 (n + m))]) results186 (rvs_cons (rv_tmp z) rvs_nil) ?_
 rw [stay_rows hn hm' hk hel] at hst
 exact ⟨_, z, (hst.own_close ((hr.take k).app (hq.app (hr.drop k)))).keep1⟩
}
}
}
}

theorem mvcc_Store_Put_ref {w0 w : World} {I : HL} {R : SP} {a0 : (Option mvcc_Store)} {p0 : Value} {a1 : Nat} {a2 : mvcc_Version} {r2_0 : Value} (f2_0 : Rd (tyInt .u8) R I r2_0 a2.Val) (hst : St w0 w I [objO at_mvcc_Store p0 a0] R) {r : ((Option mvcc_Store))} (hm : mvcc_Store_Put a0 a1 a2 = some r) :
  Calls prog 123 #[p0, F6 a1, .agg #[U6 a2.Epoch, U6 a2.Index, .bool a2.Del, r2_0]] w fun e w' => ∃ (I' : HL), e = .returned (.tuple #[]) ∧ I.le I' ∧ St w0 w' I' [objO at_mvcc_Store p0 r] R := by {
 rcases a0 with _ | o0
 {
 obtain ⟨rfl, hst'⟩ := objO_none hst
 clear hst
 have hst := hst'
 clear hst'
 dsimp only [mvcc_Store_Put] at hm
 refine calls_start (args := [.pointer none, F6 a1, .agg #[U6 a2.Epoch, U6 a2.Index, .bool a2.Del, r2_0]]) func123 z ntmps123 (Nat.le_of_ble_eq_true z) ?_
 have hI0 := HL.le.refl I
 refine wp_seq (wrl ?_)
 obtain ⟨b525, w526, ew527, eb528, hst⟩ := hst.box [U6 a2.Epoch, U6 a2.Index, .bool a2.Del, r2_0] 214
 refine wl_run (v := Pt b525 0) (w' := w526) z z (x_al (by kernel_rfl) ew527 eb528) ?_
 refine wl_nil (tn (wp_seq (wp_seq (wrl (wv (.pointer none) z z z (wv (.bool true) z z (by kernel_rfl) (wl_nil (tn ?_))))))))
 refine wp_ift z ?_
 refine wp_ret (then_r ?_)
 replace hst := hst.objO_nil at_mvcc_Store
 obtain rfl := some_inj hm
 refine post_ret (vs := []) results123 rvs_nil ?_
 exact ⟨_, z, hI0, hst.keep1⟩
}
 {
 replace hst := objO_get hst
 dsimp only [mvcc_Store_Put] at hm
 refine calls_start (args := [p0, F6 a1, .agg #[U6 a2.Epoch, U6 a2.Index, .bool a2.Del, r2_0]]) func123 z ntmps123 (Nat.le_of_ble_eq_true z) ?_
 have hI0 := HL.le.refl I
 refine wp_seq (wrl ?_)
 obtain ⟨b530, w531, ew532, eb533, hst⟩ := hst.box [U6 a2.Epoch, U6 a2.Index, .bool a2.Del, r2_0] 214
 refine wl_run (v := Pt b530 0) (w' := w531) z z (x_al (by kernel_rfl) ew532 eb533) ?_
 refine wl_nil (tn (wp_seq (wp_seq (wrl (wv (p0) z z z ?_)))))
 replace hst := hst.pull1
 obtain ⟨b535, v536, rfl, hst'⟩ := at_mvcc_Store_open hst
 clear hst
 have hst := hst'
 clear hst'
 refine wv (.bool false) z z (by kernel_rfl) (wl_nil (tn ?_))
 refine wp_iff z ?_
 refine wp_skip (tn (wp_seq (wrl ?_)))
 refine wv (Pt b530 3) z z (x_field z underlying214 z sizeOf22 z) (wv (r2_0) z z (x_load z isAgg22 (hst.bc2 z)) ?_)
 obtain ⟨t538, ht539, hm⟩ := bind_some hm
 refine wc call143 [r2_0] z z z ?_
 refine (slices_Clone_byte_byte_ref (f2_0.mono (rd_weak _)) hst.to0 ht539).mono ?_
 rintro _ w540 ⟨v543, rfl, hst⟩
 refine ⟨_, z, ?_⟩
 replace hst := hst.of1
 refine wv (Pt b530 3) z z (x_field z underlying214 z sizeOf22 z) ?_
 replace hst := hst.pull3
 obtain ⟨w545, hr546, hst⟩ := hst.boxStore1 (P := prog) (t := 22) (cs' := [U6 a2.Epoch, U6 a2.Index, .bool a2.Del, v543]) 3 v543 (one_of_sliceV hst.sv1) sizeOf22 z z
 refine wl_unit z z (x_unit hr546) ?_
 refine wl_nil (tn ?_)
 obtain ⟨y556, hm, hx557⟩ := bind_some hm
 refine wp_cut (fun a w => ∃ (z553 : (List Int)) (v552 : Value) (σ554 : Nat → Value), (mvcc_Store_Put_j0 a1 o0 a2) z553 = some r ∧ a = Fr 93 (upd (upd (upd σ554 0 (Pt b535 0)) 1 (.float .f64 a1)) 5 (Pt b530 0)) ∧ St w0 w I [at_mvcc_Store (Pt b535 0) o0, cells b530 [U6 a2.Epoch, U6 a2.Index, .bool a2.Del, v552], ownS (tyInt .u8) v552 z553] R) ?_ ?_
 {
 refine wp_seq (wrl (wv (Pt b530 2) z z (x_field z underlying214 z sizeOf4 z) (wv (.bool a2.Del) z z (x_load z isAgg4 (hst.bc0 z)) (wl_nil (tn ?_)))))
 refine bsplit a2.Del (fun hc547 => ?_) (fun hc547 => ?_)
 {
 replace hm := bif_t hc547 hm
 refine wp_ift (cvb hc547) ?_
 refine wrl (wv (Pt b530 3) z z (x_field z underlying214 z sizeOf22 z) ?_)
 obtain ⟨w549, hr550, hst⟩ := hst.by_ [U6 a2.Epoch, U6 a2.Index, .bool a2.Del, Zs] 3 ((.slice none 0 0)) sizeOf22 z (oC z oN) (by kernel_rfl)
 refine wl_unit z z (x_unit hr550) ?_
 refine wl_nil (tn ?_)
 replace hst := hst.own_nil (tyInt .u8)
 replace hst := hst.pull4.pull4
 replace hst := at_mvcc_Store_close (pv := Pt b535 0) (x := o0) hst z
 replace hst := hst.pull1.pull2.pull2.keep3
 obtain rfl := some_inj hm
 exact ⟨([]), Zs, _, hx557, (fu 0 (Pt b535 0) z (fu 1 (.float .f64 a1) z (fu 5 (Pt b530 0) z z))), hst⟩
}
 {
 replace hm := bif_f hc547 hm
 refine wp_iff (cvb hc547) ?_
 refine wp_skip (tn ?_)
 replace hst := hst.pull3.pull3
 replace hst := at_mvcc_Store_close (pv := Pt b535 0) (x := o0) hst z
 replace hst := hst.pull2.pull2.pull2.keep3
 obtain rfl := some_inj hm
 exact ⟨t538, v543, _, hx557, (fu 0 (Pt b535 0) z (fu 1 (.float .f64 a1) z (fu 5 (Pt b530 0) z z))), hst⟩
}
}
 {
 clear hst
 rintro _ w558 ⟨z553, v552, σ554, hm, rfl, hst⟩
 dsimp only [mvcc_Store_Put_j0] at hm
 refine wp_seq (wrl (wv (Pt b535 0) z z z (wv (.float .f64 a1) z z z ?_)))
 obtain ⟨t559, ht560, hm⟩ := bind_some hm
 refine wc call118 [F6 a1] z z z ?_
 refine (number_Rank_ref hst.to0 ht560).mono ?_
 rintro _ w561 ⟨rfl, hst⟩
 refine ⟨_, z, ?_⟩
 replace hst := hst.of0
 replace hst := objO_some hst
 obtain ⟨t564, ht565, hm⟩ := bind_some hm
 refine wc call146 [Pt b535 0, U6 t559] z z z ?_
 refine (mvcc_Store_find_ref hst.to1 ht565).mono ?_
 rintro _ w566 ⟨rfl, hst⟩
 refine ⟨_, z, ?_⟩
 replace hst := hst.of1
 replace hst := objO_get hst
 refine wv (.tuple #[I6 t564.1, .bool t564.2]) z z z (wv (.int .i64 t564.1) z z z (wv (.bool t564.2) z z z (wv (.int .i64 t564.1) z z z (wv (.bool t564.2) z z z (wl_nil (tn ?_))))))
 obtain ⟨y598, hm, hx599⟩ := bind_some hm
 refine wp_cut (fun a w => ∃ (z595 : mvcc_Store) (σ596 : Nat → Value), (mvcc_Store_Put_j1 t564 a2 z553) z595 = some r ∧ a = Fr 93 (upd (upd (upd σ596 0 (Pt b535 0)) 5 (Pt b530 0)) 6 (.int .i64 t564.1)) ∧ St w0 w I [at_mvcc_Store (Pt b535 0) z595, cells b530 [U6 a2.Epoch, U6 a2.Index, .bool a2.Del, v552], ownS (tyInt .u8) v552 z553] R) ?_ ?_
 {
 refine wp_seq (wrl (wv (.bool t564.2) z z z (wv (.bool (!t564.2)) z z z (wl_nil (tn ?_)))))
 refine bsplit (!t564.2) (fun hc569 => ?_) (fun hc569 => ?_)
 {
 replace hm := bif_t hc569 hm
 refine wp_ift (cvb hc569) ?_
 obtain ⟨b570, v571, e573, hst'⟩ := at_mvcc_Store_open hst
 clear hst
 have e573 := ptr_inj e573
 subst e573
 have hst := hst'
 clear hst'
 refine wp_region_St hst 14 [0, 1, 2, 3, 4, 5, 6, 7, 8, 9, 10, 11, 12, 13] [0, 0, 2, 6, 14, 0, 0, 64, 192, 448, 1022, 2047, 4095, 8191] [] z (by kernel_rfl) (by kernel_rfl) Tryz.mixed (by kernel_rfl) ?_
 refine wsr (Pt b535 0) 0 z z z (by kernel_rfl) (fun w hst => z) (wsr (Pt b535 0) 1 z z z (by kernel_rfl) (fun w hst => z) (wsr (Pt b535 0) 2 z z z (by kernel_rfl) (fun w hst => z) (wsr (Pt b535 0) 3 z z z (by kernel_rfl) (fun w hst => x_field z underlying201 z sizeOf199 z) (wsr (v571) 4 z z z (by kernel_rfl) (fun w hst => x_load z isAgg199 (hst.bc0 z)) (wsr (.int .i64 t564.1) 5 z z z (by kernel_rfl) (fun w hst => z) (wsr (.float .f64 a1) 6 z z z (by kernel_rfl) (fun w hst => z) ?_))))))
 refine ws_e1 7 (by kernel_rfl) ?_
 refine nxe [8, 9, 10, 11, 12, 13] (by kernel_rfl) z z ?_
 clear hst
 intro w hst
 obtain ⟨t574, ht575, hm⟩ := bind_some hm
 refine wec call118 [F6 a1] z z ?_
 refine (number_Rank_ref hst.to0 ht575).mono ?_
 rintro _ w576 ⟨rfl, hst⟩
 refine ⟨_, z, ?_⟩
 replace hst := hst.of0
 refine ws_next (pend' := [(5, I6 t564.1), (4, v571), (3, Pt b535 0), (2, Pt b535 0), (1, Pt b535 0), (0, Pt b535 0)]) hst (by kernel_rfl) (pkr z z (fun w hst => z) (pkr z z (fun w hst => x_load z isAgg199 (hst.bc0 z)) (pkr z z (fun w hst => x_field z underlying201 z sizeOf199 z) (pkr z z (fun w hst => z) (pkr z z (fun w hst => z) (pkr z z (fun w hst => z) pk_nil)))))) ?_
 refine wsr (.agg #[U6 t574, Zs]) 8 z z z (by kernel_rfl) (fun w hst => by kernel_rfl) ?_
 refine ws_e1 9 (by kernel_rfl) ?_
 refine nxe [10, 11, 12, 13] (by kernel_rfl) z z ?_
 clear hst
 intro w hst
 replace hst := hst.own_nil ty_mvcc_Version
 obtain ⟨b581, w582, ew583, eb584, hst⟩ := hst.nest_one (N := nest_mvcc_row) (x := ({ rank := t574, l := [] } : mvcc_row)) 240
 refine we_run (v := (.slice (some ⟨b581, 0, none⟩) 1 1)) (w' := w582) z (x_als (by kernel_rfl) ew583 eb584) ?_
 refine ws_next (pend' := [(5, I6 t564.1), (4, v571), (3, Pt b535 0), (2, Pt b535 0), (1, Pt b535 0), (0, Pt b535 0)]) hst (by kernel_rfl) (pkr z z (fun w hst => z) (pkr z z (fun w hst => x_load z isAgg199 (hst.bc1 z)) (pkr z z (fun w hst => x_field z underlying201 z sizeOf199 z) (pkr z z (fun w hst => z) (pkr z z (fun w hst => z) (pkr z z (fun w hst => z) pk_nil)))))) ?_
 refine ws_e1 10 (by kernel_rfl) ?_
 refine nxe [11, 12, 13] (by kernel_rfl) z z ?_
 clear hst
 intro w hst
 replace hst := hst.pull2
 obtain ⟨t586, ht587, hm⟩ := bind_some hm
 refine wec call183 [v571, I6 t564.1, (.slice (some ⟨b581, 0, none⟩) 1 1)] z z ?_
 refine (slices_Insert_mvcc_row_mvcc_row_ref hst.to2 ht587).mono ?_
 rintro _ w588 ⟨v591, rfl, hst⟩
 refine ⟨_, z, ?_⟩
 replace hst := hst.of1
 refine ws_next (pend' := [(0, Pt b535 0)]) hst (by kernel_rfl) (pkr z z (fun w hst => z) pk_nil) ?_
 refine wsr (Pt b535 0) 11 z z z (by kernel_rfl) (fun w hst => z) (wsr (Pt b535 0) 12 z z z (by kernel_rfl) (fun w hst => x_field z underlying201 z sizeOf199 z) ?_)
 refine ws_e1 13 (by kernel_rfl) ?_
 refine nxe [] (by kernel_rfl) z z ?_
 clear hst
 intro w hst
 replace hst := hst.pull1
 obtain ⟨w593, hr594, hst⟩ := hst.boxStore1 (P := prog) (t := 199) (cs' := [v591]) 0 v591 (one_of_sliceV (hst.nestsv 1 z)) sizeOf199 z z
 refine we_unit z (x_unit hr594) ?_
 refine ws_next (pend' := []) hst (by kernel_rfl) pk_nil ?_
 refine ws_nil ?_
 intro w hst
 refine tn ?_
 replace hst := hst.pull1.pull1
 replace hst := at_mvcc_Store_close (pv := Pt b535 0) (x := ({ rows := t586 } : mvcc_Store)) hst z
 replace hst := hst.pull2.pull2.pull2.keep3
 obtain rfl := some_inj hm
 exact ⟨({ rows := t586 } : mvcc_Store), _, hx599, (fu 0 (Pt b535 0) z (fu 5 (Pt b530 0) z (fu 6 (.int .i64 t564.1) z z))), hst⟩
}
 {
 replace hm := bif_f hc569 hm
 refine wp_iff (cvb hc569) ?_
 refine wp_skip (tn ?_)
 replace hst := hst.pull2.pull2.pull2.keep3
 obtain rfl := some_inj hm
 exact ⟨o0, _, hx599, (fu 0 (Pt b535 0) z (fu 5 (Pt b530 0) z (fu 6 (.int .i64 t564.1) z z))), hst⟩
}
}
 {
 clear hst
 rintro _ w600 ⟨z595, σ596, hm, rfl, hst⟩
 dsimp only [mvcc_Store_Put_j1] at hm
 refine wp_seq (wrl (wv (Pt b535 0) z z z ?_))
 obtain ⟨b601, v602, e604, hst'⟩ := at_mvcc_Store_open hst
 clear hst
 have e604 := ptr_inj e604
 subst e604
 have hst := hst'
 clear hst'
 refine wv (Pt b535 0) z z z (wv (Pt b535 0) z z (x_field z underlying201 z sizeOf199 z) (wv (v602) z z (x_load z isAgg199 (hst.bc0 z)) (wv (.int .i64 t564.1) z z z ?_)))
 obtain ⟨x605, hx606, hm⟩ := bind_some hm
 obtain ⟨h607, h608, hi609⟩ := geto_some hx606
 refine wv (.pointer (some (eAddr v602 (t564.1.toNat * 2 + 0)))) z z (x_index z z underlying199 sizeOf240 (hst.nestsv 1 z) h607 h608) (wv (.pointer (some (eAddr v602 (t564.1.toNat * 2 + 1)))) z z (x_field_e z underlying240 z sizeOf238 z) ?_)
 replace hst := hst.pull1
 obtain ⟨v610, hst⟩ := hst.nest_focus hi609
 refine wv (v610) z z (x_load z isAgg238 ((hst.holeall (N := nest_mvcc_row) (i := t564.1.toNat) 1 z hi609) 1 _ z)) ?_
 obtain ⟨b613, w614, ew615, eb616, hst⟩ := hst.box [Zs] 238
 refine wl_run (v := Pt b613 0) (w' := w614) z z (x_al (by kernel_rfl) ew615 eb616) ?_
 obtain ⟨w619, hr620, hst⟩ := hst.boxStore1 (P := prog) (t := 238) (cs' := [v610]) 0 v610 (one_of_sliceV hst.sv1) sizeOf238 z z
 refine wl_unit z z (x_unit hr620) ?_
 refine wl_nil (tn (wp_seq (wrl (wv (v610) z z (x_load z isAgg238 (hst.bc0 z)) (wv (.int .i64 ((x605.l).length : Int)) z z (x_len z underlying238 hst.sv1) (wv (.func (.func 184) #[] #[Pt b613 0, Pt b530 0]) z z (by kernel_rfl) ?_))))))
 obtain ⟨y710, hq711, hm⟩ := bind_some hm
 refine wl_call z z (x_callv call179 (caps := []) z (vs := [I6 ((x605.l).length : Int), .func (.func 184) #[] #[Pt b613 0, Pt b530 0]]) z) ?_
 refine Calls.mono (show Calls prog 179 #[I6 ((x605.l).length : Int), .func (.func 184) #[] #[Pt b613 0, Pt b530 0]] _ (fun e w' => ∃ (z708 : Int), z708 = y710 ∧ e = .returned (.int .i64 z708) ∧ St w0 w' I [cells b535 [v602], ownS ty_mvcc_Version v610 x605.l, holeN nest_mvcc_row v602 z595.rows t564.1.toNat v610, cells b530 [U6 a2.Epoch, U6 a2.Index, .bool a2.Del, v552], ownS (tyInt .u8) v552 z553, cells b613 [v610]] R) from ?_) ?_
 {
 clear hm; have hm := hq711
 refine calls_start (args := [I6 ((x605.l).length : Int), .func (.func 184) #[] #[Pt b613 0, Pt b530 0]]) func179 z ntmps179 (Nat.le_of_ble_eq_true z) ?_
 refine wp_seq (wrl (wv (.int .i64 (0:Int)) z z z (wl_nil (tn (wp_seq (wrl (wv (.int .i64 ((x605.l).length : Int)) z z z (wv (.int .i64 (0:Int)) z z z (wv (.int .i64 ((x605.l).length : Int)) z z z (wl_nil (tn (wp_seq (wp_block ?_)))))))))))))
 obtain ⟨n676, hm⟩ := loopO_some hm
 refine wp_loop_n (fun n a w => ∃ (z673 : Int) (z674 : Int) (σ675 : Nat → Value), loopN (mvcc_Store_Put_l2 x605 a2) n (z673, z674) = some y710 ∧ a = Fr 26 (upd (upd (upd σ675 1 (.func (.func 184) #[] #[Pt b613 0, Pt b530 0])) 5 (.int .i64 z673)) 6 (.int .i64 z674)) ∧ St w0 w I [cells b613 [v610], ownS ty_mvcc_Version v610 x605.l, holeN nest_mvcc_row v602 z595.rows t564.1.toNat v610, cells b535 [v602], cells b530 [U6 a2.Epoch, U6 a2.Index, .bool a2.Del, v552], ownS (tyInt .u8) v552 z553] R) n676 ⟨(0:Int), ((x605.l).length : Int), _, hm, (fu 1 (.func (.func 184) #[] #[Pt b613 0, Pt b530 0]) z (fu 5 (.int .i64 (0:Int)) z (fu 6 (.int .i64 ((x605.l).length : Int)) z z))), hst⟩ ?_
 rintro n682 _ w677 ⟨z673, z674, σ675, hm, rfl, hst⟩
 obtain ⟨n679, y680, rfl, hm, hx681⟩ := loopN_some hm
 dsimp only [mvcc_Store_Put_l2] at hm
 refine wp_seq (wp_seq (wrl (wv (.int .i64 z673) z z z (wv (.int .i64 z674) z z z (wv (.bool (decide (z673 < z674))) z z z (wl_nil (tn ?_)))))))
 refine bsplit (decide (z673 < z674)) (fun hc683 => ?_) (fun hc683 => ?_)
 {
 replace hm := bif_t hc683 hm
 refine wp_ift (cvb hc683) ?_
 refine wp_skip (tn (wp_block (wp_seq (wrl ?_))))
 refine wv (.int .i64 z673) z z z (wv (.int .i64 z674) z z z (wv (.int .i64 (i64.wrap (z673 + z674))) z z z (wv (.int .u64 (u64.wrap (i64.wrap (z673 + z674)))) z z (by kernel_rfl) (wv (.int .u64 (iShr .u64 (u64.wrap (i64.wrap (z673 + z674))) (1:Int))) z z (x_shr (by decide) z z) (wv (.int .i64 (i64.wrap (iShr .u64 (u64.wrap (i64.wrap (z673 + z674))) (1:Int)))) z z (by kernel_rfl) (wv (.int .i64 (i64.wrap (iShr .u64 (u64.wrap (i64.wrap (z673 + z674))) (1:Int)))) z z z (wl_nil (tn (wp_seq (wrl (wv (.func (.func 184) #[] #[Pt b613 0, Pt b530 0]) z z z (wv (.int .i64 (i64.wrap (iShr .u64 (u64.wrap (i64.wrap (z673 + z674))) (1:Int)))) z z z ?_))))))))))))
 obtain ⟨y704, hq705, hm⟩ := bind_some hm
 refine wl_call z z (x_callv call184 (caps := [Pt b613 0, Pt b530 0]) z (vs := [I6 (i64.wrap (iShr .u64 (u64.wrap (i64.wrap (z673 + z674))) (1:Int)))]) z) ?_
 refine Calls.mono (show Calls prog 184 #[I6 (i64.wrap (iShr .u64 (u64.wrap (i64.wrap (z673 + z674))) (1:Int))), Pt b613 0, Pt b530 0] _ (fun e w' => ∃ (z702 : Bool), z702 = y704 ∧ e = .returned (.bool z702) ∧ St w0 w' I [cells b535 [v602], ownS ty_mvcc_Version v610 x605.l, holeN nest_mvcc_row v602 z595.rows t564.1.toNat v610, cells b530 [U6 a2.Epoch, U6 a2.Index, .bool a2.Del, v552], ownS (tyInt .u8) v552 z553, cells b613 [v610]] R) from ?_) ?_
 {
 clear hm; have hm := hq705
 refine calls_start (args := [I6 (i64.wrap (iShr .u64 (u64.wrap (i64.wrap (z673 + z674))) (1:Int))), Pt b613 0, Pt b530 0]) func184 z ntmps184 (Nat.le_of_ble_eq_true z) ?_
 refine wp_seq (wrl (wv (.bool false) z z z (wl_nil (tn (wp_seq ?_)))))
 replace hst := hst.pull1
 obtain ⟨css684, hq685, hst⟩ := hst.own_open
 refine wp_region_St hst 11 [0, 1, 2, 3, 4, 5, 6, 7, 8, 9, 10] [0, 0, 3, 7, 0, 16, 0, 64, 255, 511, 1023] [] z (by kernel_rfl) (by kernel_rfl) Tryz.mixed (by kernel_rfl) ?_
 refine wsr (v610) 0 z z z (by kernel_rfl) (fun w hst => x_load z isAgg238 (hst.bc1 z)) (wsr (.int .i64 (i64.wrap (iShr .u64 (u64.wrap (i64.wrap (z673 + z674))) (1:Int)))) 1 z z z (by kernel_rfl) (fun w hst => z) ?_)
 obtain ⟨x686, hx687, hm⟩ := bind_some hm
 obtain ⟨h688, h689, hi690⟩ := geto_some hx687
 refine wsr (.pointer (some (eAddr v610 ((i64.wrap (iShr .u64 (u64.wrap (i64.wrap (z673 + z674))) (1:Int))).toNat * 4 + 0)))) 2 z z z (by kernel_rfl) (fun w hst => x_index z z underlying238 sizeOf214 (hst.rsv 0 z hq685) h688 h689) ?_
 obtain ⟨cs691, hc693, hr692⟩ := Reps.get hq685 hi690
 obtain ⟨v694, rfl, f695, -⟩ := hr692
 refine wsr (.agg #[U6 x686.Epoch, U6 x686.Index, .bool x686.Del, v694]) 3 z z z (by kernel_rfl) (fun w hst => x_loadN (cs := [U6 x686.Epoch, U6 x686.Index, .bool x686.Del, v694]) z isAgg214 sizeOf214 (eCells (o := 0) (hst.rcell 0 z hc693) z)) (wsr (Pt b530 0) 4 z z z (by kernel_rfl) (fun w hst => x_field z underlying214 z sizeOf26 z) (wsr (.int .u64 a2.Epoch) 5 z z z (by kernel_rfl) (fun w hst => x_load z isAgg26 (hst.bc4 z)) (wsr (Pt b530 1) 6 z z z (by kernel_rfl) (fun w hst => x_field z underlying214 z sizeOf26 z) (wsr (.int .u64 a2.Index) 7 z z z (by kernel_rfl) (fun w hst => x_load z isAgg26 (hst.bc4 z)) ?_))))
 refine ws_e1 8 (by kernel_rfl) ?_
 refine nxe [9, 10] (by kernel_rfl) z z ?_
 clear hst
 intro w hst
 obtain ⟨t697, ht698, hm⟩ := bind_some hm
 refine wec call185 [.agg #[U6 x686.Epoch, U6 x686.Index, .bool x686.Del, v694], U6 a2.Epoch, U6 a2.Index] z z ?_
 refine (mvcc_ahead_ref (f695.mono ro_rd) hst.to0 ht698).mono ?_
 rintro _ w699 ⟨rfl, hst⟩
 refine ⟨_, z, ?_⟩
 replace hst := hst.of0
 refine ws_next (pend' := []) hst (by kernel_rfl) pk_nil ?_
 refine wsr (.bool (!t697)) 9 z z z (by kernel_rfl) (fun w hst => z) (wsr (.bool (!t697)) 10 z z z (by kernel_rfl) (fun w hst => z) ?_)
 refine ws_nil ?_
 intro w hst
 replace hst := hst.own_close hq685
 refine tn (wp_ret ?_)
 refine post_ret (vs := [.bool (!t697)]) results184 (rvs_cons (rv_tmp z) rvs_nil) ?_
 replace hst := hst.pull1.pull5.pull5.pull4.pull4.pull5.keep6
 obtain rfl := some_inj hm
 exact ⟨(!t697), z, z, hst⟩
}
 clear hst
 rintro _ w706 ⟨z702, rfl, rfl, hst⟩
 refine ⟨_, z, ?_⟩
 try dsimp only at hm
 refine wv (.bool (!z702)) z z z (wl_nil (tn ?_))
 refine bsplit (!z702) (fun hc707 => ?_) (fun hc707 => ?_)
 {
 replace hm := bif_t hc707 hm
 refine wp_ift (cvb hc707) ?_
 refine wrl (wv (.int .i64 (i64.wrap (iShr .u64 (u64.wrap (i64.wrap (z673 + z674))) (1:Int)))) z z z (wv (.int .i64 (i64.wrap ((i64.wrap (iShr .u64 (u64.wrap (i64.wrap (z673 + z674))) (1:Int))) + (1:Int)))) z z z (wv (.int .i64 (i64.wrap ((i64.wrap (iShr .u64 (u64.wrap (i64.wrap (z673 + z674))) (1:Int))) + (1:Int)))) z z z (wl_nil (blk_n (tn ?_))))))
 replace hst := hst.pull4.pull4.pull2.pull4.pull4.pull5.keep6
 obtain rfl := some_inj hm
 exact ⟨_, Nat.lt_succ_self _, (i64.wrap ((i64.wrap (iShr .u64 (u64.wrap (i64.wrap (z673 + z674))) (1:Int))) + (1:Int))), z674, _, hx681, (fu 1 (.func (.func 184) #[] #[Pt b613 0, Pt b530 0]) z (fu 5 (.int .i64 (i64.wrap ((i64.wrap (iShr .u64 (u64.wrap (i64.wrap (z673 + z674))) (1:Int))) + (1:Int)))) z (fu 6 (.int .i64 z674) z z))), hst⟩
}
 {
 replace hm := bif_f hc707 hm
 refine wp_iff (cvb hc707) ?_
 refine wrl (wv (.int .i64 (i64.wrap (iShr .u64 (u64.wrap (i64.wrap (z673 + z674))) (1:Int)))) z z z (wv (.int .i64 (i64.wrap (iShr .u64 (u64.wrap (i64.wrap (z673 + z674))) (1:Int)))) z z z (wl_nil (blk_n (tn ?_)))))
 replace hst := hst.pull4.pull4.pull2.pull4.pull4.pull5.keep6
 obtain rfl := some_inj hm
 exact ⟨_, Nat.lt_succ_self _, z673, (i64.wrap (iShr .u64 (u64.wrap (i64.wrap (z673 + z674))) (1:Int))), _, hx681, (fu 1 (.func (.func 184) #[] #[Pt b613 0, Pt b530 0]) z (fu 5 (.int .i64 z673) z (fu 6 (.int .i64 (i64.wrap (iShr .u64 (u64.wrap (i64.wrap (z673 + z674))) (1:Int)))) z z))), hst⟩
}
}
 {
 replace hm := bif_f hc683 hm
 refine wp_iff (cvb hc683) ?_
 refine wp_exit (then_x (then_x ?_))
 replace hm := inr_up hm hx681
 refine blk_x (tn (wp_seq (wrl ?_)))
 refine wv (.int .i64 z673) z z z (wv (.int .i64 z673) z z z (wl_nil (tn (wp_ret ?_))))
 refine post_ret (vs := [I6 z673]) results179 (rvs_cons (rv_tmp z) rvs_nil) ?_
 replace hst := hst.pull5.pull5.pull4.pull4.pull5.keep6
 obtain rfl := some_inj hm
 exact ⟨z673, z, z, hst⟩
}
}
 clear hst
 rintro _ w712 ⟨z708, rfl, rfl, hst⟩
 refine ⟨_, z, ?_⟩
 try dsimp only at hm
 refine wv (.int .i64 z708) z z z (wl_nil (tn ?_))
 obtain ⟨y745, hm, hx746⟩ := joinO_some hm
 refine wp_cut (fun a w => ∃ (I742 : HL) (σ743 : Nat → Value), (mvcc_Store_Put_j3 x605 z708 a2 z553 z595 t564) () = some r ∧ a = Fr 93 (upd (upd (upd (upd (upd σ743 0 (Pt b535 0)) 5 (Pt b530 0)) 6 (.int .i64 t564.1)) 8 (Pt b613 0)) 9 (.int .i64 z708)) ∧ I.le I742 ∧ St w0 w I742 [cells b535 [v602], ownS ty_mvcc_Version v610 x605.l, holeN nest_mvcc_row v602 z595.rows t564.1.toNat v610, cells b530 [U6 a2.Epoch, U6 a2.Index, .bool a2.Del, v552], ownS (tyInt .u8) v552 z553, cells b613 [v610]] R) ?_ ?_
 {
 have hL747 := HL.le.refl I
 refine wp_seq ?_
 replace hst := hst.pull1
 obtain ⟨css713, hq714, hst⟩ := hst.own_open
 refine wq_regionS hst Tryz.mixed (by kernel_rfl) ?_
 refine wq_run (v := .int .i64 z708) z z (fun w hst => z) ?_
 refine wq_run (v := v610) z z (fun w hst => x_load z isAgg238 (hst.bc5 z)) ?_
 refine wq_run (v := .int .i64 ((x605.l).length : Int)) z z (fun w hst => x_len z underlying238 (hst.rsv 0 z hq714)) ?_
 refine wq_run (v := .bool (decide (z708 < ((x605.l).length : Int)))) z z (fun w hst => z) ?_
 refine wq_run (v := .bool (decide (z708 < ((x605.l).length : Int)))) z z (fun w hst => z) ?_
 refine bsplit (decide (z708 < ((x605.l).length : Int))) (fun hc715 => ?_) (fun hc715 => ?_)
 {
 replace hm := bif_t hc715 hm
 refine wq_run (v := v610) ((wanted_eq z z z (cvb hc715)).trans z) z (fun w hst => x_load z isAgg238 (hst.bc5 z)) ?_
 refine wq_run (v := .int .i64 z708) ((wanted_eq z z z (cvb hc715)).trans z) z (fun w hst => z) ?_
 obtain ⟨x716, hx717, hm⟩ := bind_some hm
 obtain ⟨h718, h719, hi720⟩ := geto_some hx717
 refine wq_run (v := .pointer (some (eAddr v610 (z708.toNat * 4 + 0)))) ((wanted_eq z z z (cvb hc715)).trans z) z (fun w hst => x_index z z underlying238 sizeOf214 (hst.rsv 0 z hq714) h718 h719) ?_
 refine wq_run (v := .pointer (some (eAddr v610 (z708.toNat * 4 + 0)))) ((wanted_eq z z z (cvb hc715)).trans z) z (fun w hst => x_field_e z underlying214 z sizeOf26 z) ?_
 obtain ⟨cs721, hc723, hr722⟩ := Reps.get hq714 hi720
 obtain ⟨v724, rfl, f725, -⟩ := hr722
 refine wq_run (v := .int .u64 x716.Epoch) ((wanted_eq z z z (cvb hc715)).trans z) z (fun w hst => x_load z isAgg26 ((hst.rcell 0 z hc723) 0 _ z)) ?_
 refine wq_run (v := Pt b530 0) ((wanted_eq z z z (cvb hc715)).trans z) z (fun w hst => x_field z underlying214 z sizeOf26 z) ?_
 refine wq_run (v := .int .u64 a2.Epoch) ((wanted_eq z z z (cvb hc715)).trans z) z (fun w hst => x_load z isAgg26 (hst.bc3 z)) ?_
 refine wq_run (v := .bool (x716.Epoch == a2.Epoch)) ((wanted_eq z z z (cvb hc715)).trans z) z (fun w hst => z) ?_
 refine wq_run (v := .bool (x716.Epoch == a2.Epoch)) z z (fun w hst => x_pick_t hc715 z z) ?_
 refine wq_run (v := .bool (x716.Epoch == a2.Epoch)) z z (fun w hst => z) ?_
 refine bsplit (x716.Epoch == a2.Epoch) (fun hc727 => ?_) (fun hc727 => ?_)
 {
 replace hm := bif_t hc727 hm
 refine wq_run (v := v610) ((wanted_eq z z z (cvb hc727)).trans z) z (fun w hst => x_load z isAgg238 (hst.bc5 z)) ?_
 refine wq_run (v := .int .i64 z708) ((wanted_eq z z z (cvb hc727)).trans z) z (fun w hst => z) ?_
 refine wq_run (v := .pointer (some (eAddr v610 (z708.toNat * 4 + 0)))) ((wanted_eq z z z (cvb hc727)).trans z) z (fun w hst => x_index z z underlying238 sizeOf214 (hst.rsv 0 z hq714) h718 h719) ?_
 refine wq_run (v := .pointer (some (eAddr v610 (z708.toNat * 4 + 1)))) ((wanted_eq z z z (cvb hc727)).trans z) z (fun w hst => x_field_e z underlying214 z sizeOf26 z) ?_
 refine wq_run (v := .int .u64 x716.Index) ((wanted_eq z z z (cvb hc727)).trans z) z (fun w hst => x_load z isAgg26 ((hst.rcell 0 z hc723) 1 _ z)) ?_
 refine wq_run (v := Pt b530 1) ((wanted_eq z z z (cvb hc727)).trans z) z (fun w hst => x_field z underlying214 z sizeOf26 z) ?_
 refine wq_run (v := .int .u64 a2.Index) ((wanted_eq z z z (cvb hc727)).trans z) z (fun w hst => x_load z isAgg26 (hst.bc3 z)) ?_
 refine wq_run (v := .bool (x716.Index == a2.Index)) ((wanted_eq z z z (cvb hc727)).trans z) z (fun w hst => z) ?_
 refine wq_run (v := .bool (x716.Index == a2.Index)) z z (fun w hst => x_pick_t hc727 z z) ?_
 refine wq_nil ?_
 intro w hst
 replace hst := hst.own_close hq714
 refine tn ?_
 refine bsplit (x716.Index == a2.Index) (fun hc728 => ?_) (fun hc728 => ?_)
 {
 replace hm := bif_t hc728 hm
 refine wp_ift (cvb hc728) ?_
 refine wp_seq (wrl (wv (v610) z z (x_load z isAgg238 (hst.bc5 z)) (wv (.int .i64 z708) z z z (wv (.agg #[U6 a2.Epoch, U6 a2.Index, .bool a2.Del, v552]) z z (x_loadN (cs := [U6 a2.Epoch, U6 a2.Index, .bool a2.Del, v552]) z isAgg214 sizeOf214 (hst.bcs3 0 z)) (wv (.pointer (some (eAddr v610 (z708.toNat * 4 + 0)))) z z (x_index z z underlying238 sizeOf214 hst.sv0 h718 h719) ?_)))))
 obtain ⟨cs729, hr730, hc731⟩ := hst.og0 hi720
 obtain ⟨v732, rfl, f733, -⟩ := hr730
 replace hst := hst.pull4
 obtain ⟨I735, hI736, f737, hst⟩ := hst.own_fix
 replace f2_0 := f2_0.mono (rd_le hI736)
 replace f725 := f725.mono (ro_le hI736)
 replace f733 := f733.mono (ro_le hI736)
 replace hI0 := hI0.trans hI736
 replace hL747 := hL747.trans hI736
 obtain ⟨w738, hr739, hst⟩ := hst.own_store (P := prog) (t := 214) (y := ({ Epoch := a2.Epoch, Index := a2.Index, Del := a2.Del, Val := z553 } : mvcc_Version)) hi720 0 (.agg #[U6 a2.Epoch, U6 a2.Index, .bool a2.Del, v552]) sizeOf214 (Nat.le_of_ble_eq_true z) (oC z (oC z (oC z (oC (one_of_sliceV (ro_sliceV f737)) oN)))) (fun cs h => ⟨_, setMany_all (ty_mvcc_Version.len h) z, f737, one_of_sliceV (ro_sliceV f737)⟩)
 have hi740 := set_get hi720 ({ Epoch := a2.Epoch, Index := a2.Index, Del := a2.Del, Val := z553 } : mvcc_Version)
 have h741 := set_lt h719 z708.toNat ({ Epoch := a2.Epoch, Index := a2.Index, Del := a2.Del, Val := z553 } : mvcc_Version)
 refine wl_unit z z (x_unit hr739) ?_
 refine wl_nil (tn (wp_ret (then_r ?_)))
 replace hm := inr_up hm hx746
 replace hst := hst.pull2.pull1
 replace hst := St.nest_close (N := nest_mvcc_row) hst hi609
 replace hst := hst.pull1
 replace hst := at_mvcc_Store_close (pv := Pt b535 0) (x := ({ rows := (z595.rows.set t564.1.toNat ({ rank := x605.rank, l := (x605.l.set z708.toNat ({ Epoch := a2.Epoch, Index := a2.Index, Del := a2.Del, Val := z553 } : mvcc_Version)) } : mvcc_row)) } : mvcc_Store)) hst z
 replace hst := objO_some hst
 obtain rfl := some_inj hm
 refine post_ret (vs := []) results123 rvs_nil ?_
 exact ⟨_, z, hI0, hst.keep1⟩
}
 {
 replace hm := bif_f hc728 hm
 refine wp_iff (cvb hc728) ?_
 refine wp_skip (tn ?_)
 replace hst := hst.pull5.pull5.pull5.pull5.pull4.pull5.keep6
 obtain rfl := some_inj hm
 exact ⟨_, _, hx746, (fu 0 (Pt b535 0) z (fu 5 (Pt b530 0) z (fu 6 (.int .i64 t564.1) z (fu 8 (Pt b613 0) z (fu 9 (.int .i64 z708) z z))))), hL747, hst⟩
}
}
 {
 replace hm := bif_f hc727 hm
 refine wq_off ((wanted_eq z z z (cvb hc727)).trans z) z ?_
 refine wq_off ((wanted_eq z z z (cvb hc727)).trans z) z ?_
 refine wq_off ((wanted_eq z z z (cvb hc727)).trans z) z ?_
 refine wq_off ((wanted_eq z z z (cvb hc727)).trans z) z ?_
 refine wq_off ((wanted_eq z z z (cvb hc727)).trans z) z ?_
 refine wq_off ((wanted_eq z z z (cvb hc727)).trans z) z ?_
 refine wq_off ((wanted_eq z z z (cvb hc727)).trans z) z ?_
 refine wq_off ((wanted_eq z z z (cvb hc727)).trans z) z ?_
 refine wq_run (v := .bool false) z z (fun w hst => x_pick_f hc727 z z) ?_
 refine wq_nil ?_
 intro w hst
 replace hst := hst.own_close hq714
 refine tn ?_
 refine wp_iff z ?_
 refine wp_skip (tn ?_)
 replace hst := hst.pull5.pull5.pull5.pull5.pull4.pull5.keep6
 obtain rfl := some_inj hm
 exact ⟨_, _, hx746, (fu 0 (Pt b535 0) z (fu 5 (Pt b530 0) z (fu 6 (.int .i64 t564.1) z (fu 8 (Pt b613 0) z (fu 9 (.int .i64 z708) z z))))), hL747, hst⟩
}
}
 {
 replace hm := bif_f hc715 hm
 refine wq_off ((wanted_eq z z z (cvb hc715)).trans z) z ?_
 refine wq_off ((wanted_eq z z z (cvb hc715)).trans z) z ?_
 refine wq_off ((wanted_eq z z z (cvb hc715)).trans z) z ?_
 refine wq_off ((wanted_eq z z z (cvb hc715)).trans z) z ?_
 refine wq_off ((wanted_eq z z z (cvb hc715)).trans z) z ?_
 refine wq_off ((wanted_eq z z z (cvb hc715)).trans z) z ?_
 refine wq_off ((wanted_eq z z z (cvb hc715)).trans z) z ?_
 refine wq_off ((wanted_eq z z z (cvb hc715)).trans z) z ?_
 refine wq_run (v := .bool false) z z (fun w hst => x_pick_f hc715 z z) ?_
 refine wq_run (v := .bool false) z z (fun w hst => z) ?_
 refine wq_off ((wanted_eq z z z z).trans z) z ?_
 refine wq_off ((wanted_eq z z z z).trans z) z ?_
 refine wq_off ((wanted_eq z z z z).trans z) z ?_
 refine wq_off ((wanted_eq z z z z).trans z) z ?_
 refine wq_off ((wanted_eq z z z z).trans z) z ?_
 refine wq_off ((wanted_eq z z z z).trans z) z ?_
 refine wq_off ((wanted_eq z z z z).trans z) z ?_
 refine wq_off ((wanted_eq z z z z).trans z) z ?_
 refine wq_run (v := .bool false) z z (fun w hst => x_pick_f z z z) ?_
 refine wq_nil ?_
 intro w hst
 replace hst := hst.own_close hq714
 refine tn ?_
 refine wp_iff z ?_
 refine wp_skip (tn ?_)
 replace hst := hst.pull5.pull5.pull5.pull5.pull4.pull5.keep6
 obtain rfl := some_inj hm
 exact ⟨_, _, hx746, (fu 0 (Pt b535 0) z (fu 5 (Pt b530 0) z (fu 6 (.int .i64 t564.1) z (fu 8 (Pt b613 0) z (fu 9 (.int .i64 z708) z z))))), hL747, hst⟩
}
}
 {
 clear hst
 rintro _ w748 ⟨I742, σ743, hm, rfl, hL744, hst⟩
 dsimp only [mvcc_Store_Put_j3] at hm
 replace f2_0 := f2_0.mono (rd_le hL744)
 replace hI0 := hI0.trans hL744
 refine wp_region_St hst 13 [0, 1, 2, 3, 4, 5, 6, 7, 8, 9, 10, 11, 12] [0, 1, 3, 7, 0, 0, 0, 0, 128, 480, 1023, 2047, 4095] [] z (by kernel_rfl) (by kernel_rfl) Tryz.mixed (by kernel_rfl) ?_
 refine wsr (Pt b535 0) 0 z z z (by kernel_rfl) (fun w hst => z) (wsr (Pt b535 0) 1 z z z (by kernel_rfl) (fun w hst => z) (wsr (Pt b535 0) 2 z z z (by kernel_rfl) (fun w hst => x_field z underlying201 z sizeOf199 z) (wsr (v602) 3 z z z (by kernel_rfl) (fun w hst => x_load z isAgg199 (hst.bc0 z)) (wsr (.int .i64 t564.1) 4 z z z (by kernel_rfl) (fun w hst => z) (wsr (v610) 5 z z z (by kernel_rfl) (fun w hst => x_load z isAgg238 (hst.bc5 z)) (wsr (.int .i64 z708) 6 z z z (by kernel_rfl) (fun w hst => z) (wsr (.agg #[U6 a2.Epoch, U6 a2.Index, .bool a2.Del, v552]) 7 z z z (by kernel_rfl) (fun w hst => x_loadN (cs := [U6 a2.Epoch, U6 a2.Index, .bool a2.Del, v552]) z isAgg214 sizeOf214 (hst.bcs3 0 z)) ?_)))))))
 refine ws_e1 8 (by kernel_rfl) ?_
 refine nxe [9, 10, 11, 12] (by kernel_rfl) z z ?_
 clear hst
 intro w hst
 replace hst := hst.pull4
 obtain ⟨I750, hI751, f752, hst⟩ := hst.own_fix
 replace f2_0 := f2_0.mono (rd_le hI751)
 replace hI0 := hI0.trans hI751
 obtain ⟨b753, w754, ew755, eb756, hst⟩ := hst.lits (E := ty_mvcc_Version) (xs := [({ Epoch := a2.Epoch, Index := a2.Index, Del := a2.Del, Val := z553 } : mvcc_Version)]) [[U6 a2.Epoch, U6 a2.Index, .bool a2.Del, v552]] 214 1 z (Reps.cons ⟨_, z, f752, one_of_sliceV (ro_sliceV f752)⟩ Reps.nil)
 refine we_run (v := (.slice (some ⟨b753, 0, none⟩) 1 1)) (w' := w754) z (x_als (by kernel_rfl) ew755 eb756) ?_
 refine ws_next (pend' := [(6, I6 z708), (5, v610), (4, I6 t564.1), (3, v602), (2, Pt b535 0), (1, Pt b535 0), (0, Pt b535 0)]) hst (by kernel_rfl) (pkr z z (fun w hst => z) (pkr z z (fun w hst => x_load z isAgg238 (hst.bc5 z)) (pkr z z (fun w hst => z) (pkr z z (fun w hst => x_load z isAgg199 (hst.bc1 z)) (pkr z z (fun w hst => x_field z underlying201 z sizeOf199 z) (pkr z z (fun w hst => z) (pkr z z (fun w hst => z) pk_nil))))))) ?_
 refine ws_e1 9 (by kernel_rfl) ?_
 refine nxe [10, 11, 12] (by kernel_rfl) z z ?_
 clear hst
 intro w hst
 replace hst := hst.pull2
 obtain ⟨t758, ht759, hm⟩ := bind_some hm
 refine wec call186 [v610, I6 z708, (.slice (some ⟨b753, 0, none⟩) 1 1)] z z ?_
 refine (slices_Insert_mvcc_Version_mvcc_Version_ref hst.to2 ht759).mono ?_
 rintro _ w760 ⟨v763, rfl, hst⟩
 refine ⟨_, z, ?_⟩
 replace hst := hst.of1
 refine ws_next (pend' := [(4, I6 t564.1), (3, v602), (2, Pt b535 0), (1, Pt b535 0), (0, Pt b535 0)]) hst (by kernel_rfl) (pkr z z (fun w hst => z) (pkr z z (fun w hst => x_load z isAgg199 (hst.bc1 z)) (pkr z z (fun w hst => x_field z underlying201 z sizeOf199 z) (pkr z z (fun w hst => z) (pkr z z (fun w hst => z) pk_nil))))) ?_
 refine wsr (.pointer (some (eAddr v602 (t564.1.toNat * 2 + 0)))) 10 z z z (by kernel_rfl) (fun w hst => x_index z z underlying199 sizeOf240 (hst.holesv 2 z) h607 h608) (wsr (.pointer (some (eAddr v602 (t564.1.toNat * 2 + 1)))) 11 z z z (by kernel_rfl) (fun w hst => x_field_e z underlying240 z sizeOf238 z) ?_)
 refine ws_e1 12 (by kernel_rfl) ?_
 refine nxe [] (by kernel_rfl) z z ?_
 clear hst
 intro w hst
 replace hst := hst.pull2
 obtain ⟨w765, hr766, hst⟩ := hst.hole_store (P := prog) (t := 238) hi609 hst.sv1 sizeOf238
 refine we_unit z (x_unit hr766) ?_
 refine ws_next (pend' := []) hst (by kernel_rfl) pk_nil ?_
 refine ws_nil ?_
 intro w hst
 replace hst := hst.pull1
 replace hst := St.nest_close (N := nest_mvcc_row) hst hi609
 replace hst := hst.pull1
 replace hst := at_mvcc_Store_close (pv := Pt b535 0) (x := ({ rows := (z595.rows.set t564.1.toNat ({ rank := x605.rank, l := t758 } : mvcc_row)) } : mvcc_Store)) hst z
 replace hst := objO_some hst
 obtain rfl := some_inj hm
 refine post_end (vs := []) results123 rvs_nil ?_
 exact ⟨_, z, hI0, hst.keep1⟩
}
}
}
}
}

theorem lane_State_finish_ref {w0 w : World} {I : HL} {R : SP} {a0 : (Option lane_State)} {p0 : Value} {a1 : api_Command} {r1_0 : Value} {r1_1 : Value} {r1_2 : Value} {r1_3 : Value} {r1_4 : Value} {r1_5 : Value} {r1_6 : Value} {r1_7 : Value} (f1_0 : Rd tyF64 R I r1_0 a1.Hold.Gets) (f1_1 : Rd tyF2 R I r1_1 a1.Hold.Scans) (f1_2 : Rd tyF64 R I r1_2 a1.Hold.Puts) (f1_3 : Rd (tyInt .u8) R I r1_3 a1.Hold.Data) (f1_4 : Rd ty_api_Write R I r1_4 a1.Writes) (f1_5 : Rd ty_api_Got R I r1_5 a1.R.Gots) (f1_6 : Rd (tySl ty_api_Pair) R I r1_6 a1.R.Scans) (f1_7 : Rd ty_api_Part R I r1_7 a1.Parts) (hst : St w0 w I [objO at_lane_State p0 a0] R) {r : (api_Effect × (Option lane_State))} (hm : lane_State_finish a0 a1 = some r) :
  Calls prog 49 #[p0, .agg #[U1 a1.Kind, U6 a1.ID.Session, U6 a1.ID.Seq, U6 a1.Epoch, U6 a1.Index, I6 a1.E, U6 a1.Hold.ID.Session, U6 a1.Hold.ID.Seq, U6 a1.Hold.Epoch, r1_0, r1_1, r1_2, r1_3, r1_4, I6 a1.R.E, U6 a1.R.Epoch, U6 a1.R.Index, r1_5, r1_6, U6 a1.Shards, r1_7, U6 a1.Rule.ID, I6 a1.Rule.From, I6 a1.Rule.To, F6 a1.Rule.Lo, F6 a1.Rule.Hi, U6 a1.Rule.Authority, I6 a1.Rule.Quota, .bool a1.On]] w fun e w' => ∃ (I' : HL) (q0_0 : Value) (q0_1 : Value), e = .returned (.agg #[U1 r.1.Kind, U6 r.1.ID.Session, U6 r.1.ID.Seq, I6 r.1.R.E, U6 r.1.R.Epoch, U6 r.1.R.Index, q0_0, q0_1]) ∧ I.le I' ∧ St w0 w' I' [ownS ty_api_Got q0_0 r.1.R.Gots, ownS (tySl ty_api_Pair) q0_1 r.1.R.Scans, objO at_lane_State p0 r.2] R := by {
 rcases a0 with _ | o0
 {
 obtain ⟨rfl, hst'⟩ := objO_none hst
 clear hst
 have hst := hst'
 clear hst'
 dsimp only [lane_State_finish] at hm
 refine calls_start (args := [.pointer none, .agg #[U1 a1.Kind, U6 a1.ID.Session, U6 a1.ID.Seq, U6 a1.Epoch, U6 a1.Index, I6 a1.E, U6 a1.Hold.ID.Session, U6 a1.Hold.ID.Seq, U6 a1.Hold.Epoch, r1_0, r1_1, r1_2, r1_3, r1_4, I6 a1.R.E, U6 a1.R.Epoch, U6 a1.R.Index, r1_5, r1_6, U6 a1.Shards, r1_7, U6 a1.Rule.ID, I6 a1.Rule.From, I6 a1.Rule.To, F6 a1.Rule.Lo, F6 a1.Rule.Hi, U6 a1.Rule.Authority, I6 a1.Rule.Quota, .bool a1.On]]) func49 z ntmps49 (Nat.le_of_ble_eq_true z) ?_
 have hI0 := HL.le.refl I
 refine wp_seq (wrl ?_)
 obtain ⟨b419, w420, ew421, eb422, hst⟩ := hst.box [U1 a1.Kind, U6 a1.ID.Session, U6 a1.ID.Seq, U6 a1.Epoch, U6 a1.Index, I6 a1.E, U6 a1.Hold.ID.Session, U6 a1.Hold.ID.Seq, U6 a1.Hold.Epoch, r1_0, r1_1, r1_2, r1_3, r1_4, I6 a1.R.E, U6 a1.R.Epoch, U6 a1.R.Index, r1_5, r1_6, U6 a1.Shards, r1_7, U6 a1.Rule.ID, I6 a1.Rule.From, I6 a1.Rule.To, F6 a1.Rule.Lo, F6 a1.Rule.Hi, U6 a1.Rule.Authority, I6 a1.Rule.Quota, .bool a1.On] 49
 refine wl_run (v := Pt b419 0) (w' := w420) z z (x_al (by kernel_rfl) ew421 eb422) ?_
 obtain ⟨b426, w427, ew428, eb429, hst⟩ := hst.box [Zb, Zu, Zu, Zi, Zu, Zu, Zs, Zs] 35
 refine wl_run (v := Pt b426 0) (w' := w427) z z (x_al (by kernel_rfl) ew428 eb429) ?_
 refine wl_nil (tn (wp_seq (wp_seq ?_)))
 refine wp_region_St hst 12 [0, 1, 2, 3, 4, 5, 6, 7, 8, 9, 10, 11] [0, 1, 3, 7, 0, 16, 63, 127, 255, 511, 1023, 2047] [] z (by kernel_rfl) (by kernel_rfl) Tryz.mixed (by kernel_rfl) ?_
 refine wsr (.pointer none) 0 z z z (by kernel_rfl) (fun w hst => z) ?_
 cases hm
}
 {
 replace hst := objO_get hst
 dsimp only [lane_State_finish] at hm
 refine calls_start (args := [p0, .agg #[U1 a1.Kind, U6 a1.ID.Session, U6 a1.ID.Seq, U6 a1.Epoch, U6 a1.Index, I6 a1.E, U6 a1.Hold.ID.Session, U6 a1.Hold.ID.Seq, U6 a1.Hold.Epoch, r1_0, r1_1, r1_2, r1_3, r1_4, I6 a1.R.E, U6 a1.R.Epoch, U6 a1.R.Index, r1_5, r1_6, U6 a1.Shards, r1_7, U6 a1.Rule.ID, I6 a1.Rule.From, I6 a1.Rule.To, F6 a1.Rule.Lo, F6 a1.Rule.Hi, U6 a1.Rule.Authority, I6 a1.Rule.Quota, .bool a1.On]]) func49 z ntmps49 (Nat.le_of_ble_eq_true z) ?_
 have hI0 := HL.le.refl I
 refine wp_seq (wrl ?_)
 obtain ⟨b431, w432, ew433, eb434, hst⟩ := hst.box [U1 a1.Kind, U6 a1.ID.Session, U6 a1.ID.Seq, U6 a1.Epoch, U6 a1.Index, I6 a1.E, U6 a1.Hold.ID.Session, U6 a1.Hold.ID.Seq, U6 a1.Hold.Epoch, r1_0, r1_1, r1_2, r1_3, r1_4, I6 a1.R.E, U6 a1.R.Epoch, U6 a1.R.Index, r1_5, r1_6, U6 a1.Shards, r1_7, U6 a1.Rule.ID, I6 a1.Rule.From, I6 a1.Rule.To, F6 a1.Rule.Lo, F6 a1.Rule.Hi, U6 a1.Rule.Authority, I6 a1.Rule.Quota, .bool a1.On] 49
 refine wl_run (v := Pt b431 0) (w' := w432) z z (x_al (by kernel_rfl) ew433 eb434) ?_
 obtain ⟨b438, w439, ew440, eb441, hst⟩ := hst.box [Zb, Zu, Zu, Zi, Zu, Zu, Zs, Zs] 35
 refine wl_run (v := Pt b438 0) (w' := w439) z z (x_al (by kernel_rfl) ew440 eb441) ?_
 refine wl_nil (tn (wp_seq (wp_seq ?_)))
 replace hst := hst.pull2
 obtain ⟨b443, v444, v446, v448, v450, v452, v454, v456, rfl, hst'⟩ := at_lane_State_open hst
 clear hst
 have hst := hst'
 clear hst'
 refine wp_region_St hst 12 [0, 1, 2, 3, 4, 5, 6, 7, 8, 9, 10, 11] [0, 1, 3, 7, 0, 16, 63, 127, 255, 511, 1023, 2047] [] z (by kernel_rfl) (by kernel_rfl) Tryz.mixed (by kernel_rfl) ?_
 refine wsr (Pt b443 0) 0 z z z (by kernel_rfl) (fun w hst => z) (wsr (Pt b443 0) 1 z z z (by kernel_rfl) (fun w hst => z) (wsr (Pt b443 3) 2 z z z (by kernel_rfl) (fun w hst => x_field z underlying111 z sizeOf103 z) (wsr (v446) 3 z z z (by kernel_rfl) (fun w hst => x_load z isAgg103 (hst.bc0 z)) (wsr (Pt b431 1) 4 z z z (by kernel_rfl) (fun w hst => x_field z underlying49 z sizeOf28 z) (wsr (.agg #[U6 a1.ID.Session, U6 a1.ID.Seq]) 5 z z z (by kernel_rfl) (fun w hst => x_loadN (cs := [U6 a1.ID.Session, U6 a1.ID.Seq]) z isAgg28 sizeOf28 (hst.bcs9 1 z)) ?_)))))
 refine ws_e1 6 (by kernel_rfl) ?_
 refine nxe [7, 8, 9, 10, 11] (by kernel_rfl) z z ?_
 clear hst
 intro w hst
 replace hst := hst.pull2
 obtain ⟨t458, ht459, hm⟩ := bind_some hm
 refine wec call122 [v446, .agg #[U6 a1.ID.Session, U6 a1.ID.Seq]] z z ?_
 refine (locks_Table_Drop_ref hst.to1 ht459).mono ?_
 rintro _ w460 ⟨rfl, hst⟩
 refine ⟨_, z, ?_⟩
 replace hst := hst.of1
 refine ws_next (pend' := []) hst (by kernel_rfl) pk_nil ?_
 refine wsr (.bool t458.1) 7 z z z (by kernel_rfl) (fun w hst => z) ?_
 refine bsplit t458.1 (fun hc463 => ?_) (fun hc463 => ?_)
 {
 replace hm := bif_t hc463 hm
 refine ws_q (v := Pt b431 5) 8 [9, 10, 11] (by kernel_rfl) z z (yi_run ((wanted_eq z z z (cvb hc463)).trans z) (fun w hst => x_field z underlying49 z sizeOf29 z)) (ws_q (v := .int .i64 a1.E) 9 [10, 11] (by kernel_rfl) z z (yi_run ((wanted_eq z z z (cvb hc463)).trans z) (fun w hst => x_load z isAgg29 (hst.bc9 z))) (ws_q (v := .bool (a1.E == (0:Int))) 10 [11] (by kernel_rfl) z z (yi_run ((wanted_eq z z z (cvb hc463)).trans z) (fun w hst => z)) (wsr (.bool (a1.E == (0:Int))) 11 z z z (by kernel_rfl) (fun w hst => x_pick_t hc463 z z) ?_)))
 refine ws_nil ?_
 intro w hst
 refine tn ?_
 refine bsplit (a1.E == (0:Int)) (fun hc464 => ?_) (fun hc464 => ?_)
 {
 replace hm := bif_t hc464 hm
 refine wp_ift (cvb hc464) ?_
 refine wp_seq (wrl (wv (Pt b431 13) z z (x_field z underlying49 z sizeOf42 z) (wv (r1_4) z z (x_load z isAgg42 (hst.bc9 z)) (wv (.int .i64 ((a1.Writes).length : Int)) z z (x_len z underlying42 (rd_sliceV f1_4)) (wv (.int .i64 (0:Int)) z z z (wl_nil (tn (wp_block ?_))))))))
 replace hst := hst.pull7.pull7.pull7.pull7.pull7.pull5.pull7.pull7
 replace hst := at_lane_State_close (pv := Pt b443 0) (x := ({ wide := o0.wide, epoch := o0.epoch, store := o0.store, locks := t458.2, last := o0.last, book := o0.book, open_ := o0.open_, out := o0.out, used := o0.used } : lane_State)) hst z
 obtain ⟨n555, hm⟩ := loopO_some hm
 refine wp_loop_n (fun n a w => ∃ (I553 : HL) (z551 : lane_State) (z552 : Int) (σ554 : Nat → Value), loopN (lane_State_finish_l0 a1) n (z551, z552) = some r ∧ a = Fr 46 (upd (upd (upd (upd (upd (upd σ554 0 (Pt b443 0)) 3 (Pt b431 0)) 4 (Pt b438 0)) 20 (r1_4)) 21 (.int .i64 ((a1.Writes).length : Int))) 22 (.int .i64 z552)) ∧ I.le I553 ∧ St w0 w I553 [at_lane_State (Pt b443 0) z551, cells b438 [Zb, Zu, Zu, Zi, Zu, Zu, Zs, Zs], cells b431 [U1 a1.Kind, U6 a1.ID.Session, U6 a1.ID.Seq, U6 a1.Epoch, U6 a1.Index, I6 a1.E, U6 a1.Hold.ID.Session, U6 a1.Hold.ID.Seq, U6 a1.Hold.Epoch, r1_0, r1_1, r1_2, r1_3, r1_4, I6 a1.R.E, U6 a1.R.Epoch, U6 a1.R.Index, r1_5, r1_6, U6 a1.Shards, r1_7, U6 a1.Rule.ID, I6 a1.Rule.From, I6 a1.Rule.To, F6 a1.Rule.Lo, F6 a1.Rule.Hi, U6 a1.Rule.Authority, I6 a1.Rule.Quota, .bool a1.On]] R) n555 ⟨_, ({ wide := o0.wide, epoch := o0.epoch, store := o0.store, locks := t458.2, last := o0.last, book := o0.book, open_ := o0.open_, out := o0.out, used := o0.used } : lane_State), (0:Int), _, hm, (fu 0 (Pt b443 0) z (fu 3 (Pt b431 0) z (fu 4 (Pt b438 0) z (fu 20 r1_4 z (fu 21 (.int .i64 ((a1.Writes).length : Int)) z (fu 22 (.int .i64 (0:Int)) z z)))))), (HL.le.refl _), hst⟩ ?_
 rintro n561 _ w556 ⟨I553, z551, z552, σ554, hm, rfl, hL557, hst⟩
 obtain ⟨n558, y559, rfl, hm, hx560⟩ := loopN_some hm
 dsimp only [lane_State_finish_l0] at hm
 replace f1_0 := f1_0.mono (rd_le hL557)
 replace f1_1 := f1_1.mono (rd_le hL557)
 replace f1_2 := f1_2.mono (rd_le hL557)
 replace f1_3 := f1_3.mono (rd_le hL557)
 replace f1_4 := f1_4.mono (rd_le hL557)
 replace f1_5 := f1_5.mono (rd_le hL557)
 replace f1_6 := f1_6.mono (rd_le hL557)
 replace f1_7 := f1_7.mono (rd_le hL557)
 replace hI0 := hI0.trans hL557
 refine wp_seq (wrl (wv (.bool (decide (z552 < ((a1.Writes).length : Int)))) z z z (wl_nil (tn (wp_seq ?_)))))
 refine bsplit (decide (z552 < ((a1.Writes).length : Int))) (fun hc562 => ?_) (fun hc562 => ?_)
 {
 replace hm := bif_t hc562 hm
 refine wp_ift (cvb hc562) ?_
 refine wp_skip (tn (wp_seq (wp_block (wp_seq (wrl ?_)))))
 obtain ⟨x563, hx564, hm⟩ := bind_some hm
 obtain ⟨h565, h566, hi567⟩ := geto_some hx564
 refine wv (.pointer (some (eAddr r1_4 (z552.toNat * 3 + 0)))) z z (x_index z z underlying42 sizeOf41 (rd_sliceV f1_4) h565 h566) ?_
 obtain ⟨cs568, hr569, hc570⟩ := Rd.getF f1_4 hi567
 obtain ⟨v571, rfl, f572, -⟩ := hr569
 refine wv (.agg #[F6 x563.At, .bool x563.Del, v571]) z z (x_loadN (cs := [F6 x563.At, .bool x563.Del, v571]) z isAgg41 sizeOf41 (eCells (o := 0) (hc570 (HL.le.refl _) hst) z)) ?_
 obtain ⟨b575, w576, ew577, eb578, hst⟩ := hst.box [Zf, .bool false, Zs] 41
 refine wl_run (v := Pt b575 0) (w' := w576) z z (x_al (by kernel_rfl) ew577 eb578) ?_
 obtain ⟨w580, hr581, hst⟩ := hst.bx [F6 x563.At, .bool x563.Del, v571] sizeOf41 z (oC z (oC z (oC (one_of_sliceV (rd_sliceV f572)) oN))) (by kernel_rfl)
 refine wl_unit z z (x_unit hr581) ?_
 refine wl_nil (tn ?_)
 replace hst := hst.pull1
 obtain ⟨b582, v583, v585, v587, v589, v591, v593, v595, e597, hst'⟩ := at_lane_State_open hst
 clear hst
 have e597 := ptr_inj e597
 subst e597
 have hst := hst'
 clear hst'
 refine wp_region_St hst 16 [0, 1, 2, 3, 4, 5, 6, 7, 8, 9, 10, 11, 12, 13, 14, 15] [0, 1, 3, 7, 0, 16, 0, 64, 0, 256, 0, 1024, 0, 4096, 16320, 32767] [] z (by kernel_rfl) (by kernel_rfl) Tryz.mixed (by kernel_rfl) ?_
 refine wsr (Pt b443 0) 0 z z z (by kernel_rfl) (fun w hst => z) (wsr (Pt b443 0) 1 z z z (by kernel_rfl) (fun w hst => z) (wsr (Pt b443 2) 2 z z z (by kernel_rfl) (fun w hst => x_field z underlying111 z sizeOf101 z) (wsr (v583) 3 z z z (by kernel_rfl) (fun w hst => x_load z isAgg101 (hst.bc0 z)) (wsr (Pt b575 0) 4 z z z (by kernel_rfl) (fun w hst => x_field z underlying41 z sizeOf37 z) (wsr (.float .f64 x563.At) 5 z z z (by kernel_rfl) (fun w hst => x_load z isAgg37 (hst.bc8 z)) (wsr (Pt b431 3) 6 z z z (by kernel_rfl) (fun w hst => x_field z underlying49 z sizeOf26 z) (wsr (.int .u64 a1.Epoch) 7 z z z (by kernel_rfl) (fun w hst => x_load z isAgg26 (hst.bc10 z)) (wsr (Pt b431 4) 8 z z z (by kernel_rfl) (fun w hst => x_field z underlying49 z sizeOf26 z) (wsr (.int .u64 a1.Index) 9 z z z (by kernel_rfl) (fun w hst => x_load z isAgg26 (hst.bc10 z)) (wsr (Pt b575 1) 10 z z z (by kernel_rfl) (fun w hst => x_field z underlying41 z sizeOf4 z) (wsr (.bool x563.Del) 11 z z z (by kernel_rfl) (fun w hst => x_load z isAgg4 (hst.bc8 z)) (wsr (Pt b575 2) 12 z z z (by kernel_rfl) (fun w hst => x_field z underlying41 z sizeOf22 z) ?_))))))))))))
 refine wsr (v571) 13 rfl rfl rfl (by kernel_rfl) (fun w hst => x_load rfl isAgg22 (hst.bc8 rfl)) (wsr (.agg #[U6 a1.Epoch, U6 a1.Index, .bool x563.Del, v571]) 14 rfl rfl rfl (by kernel_rfl) (fun w hst => by obtain ⟨_, _, hv_, _⟩ := (rd_sliceV f572); rw [hv_]; kernel_rfl) ?_)
 refine ws_e1 15 (by kernel_rfl) ?_
 refine nxe [] (by kernel_rfl) z z ?_
 clear hst
 intro w hst
 replace hst := hst.pull1
 obtain ⟨t599, ht600, hm⟩ := bind_some hm
 refine wec call123 [v583, F6 x563.At, .agg #[U6 a1.Epoch, U6 a1.Index, .bool x563.Del, v571]] z z ?_
 refine (mvcc_Store_Put_ref (a2 := ({ Epoch := a1.Epoch, Index := a1.Index, Del := x563.Del, Val := x563.Val } : mvcc_Version)) (f572.mono (rd_weak _)) hst.to1 ht600).mono ?_
 rintro _ w601 ⟨I602, rfl, hI603, hst⟩
 refine ⟨_, z, ?_⟩
 replace hst := hst.of1
 replace f1_0 := f1_0.mono (rd_le hI603)
 replace f1_1 := f1_1.mono (rd_le hI603)
 replace f1_2 := f1_2.mono (rd_le hI603)
 replace f1_3 := f1_3.mono (rd_le hI603)
 replace f1_4 := f1_4.mono (rd_le hI603)
 replace f1_5 := f1_5.mono (rd_le hI603)
 replace f1_6 := f1_6.mono (rd_le hI603)
 replace f1_7 := f1_7.mono (rd_le hI603)
 replace f572 := f572.mono (rd_le hI603)
 replace hI0 := hI0.trans hI603
 replace hL557 := hL557.trans hI603
 refine ws_next (pend' := []) hst (by kernel_rfl) pk_nil ?_
 refine ws_nil ?_
 intro w hst
 refine blk_n (tn (wrl ?_))
 refine wv (.int .i64 (i64.wrap (z552 + (1:Int)))) z z z (wv (.int .i64 (i64.wrap (z552 + (1:Int)))) z z z (wl_nil (tn ?_)))
 replace hst := hst.pull7.pull7.pull7.pull7.pull7.pull7.pull6.pull7
 replace hst := at_lane_State_close (pv := Pt b443 0) (x := ({ wide := z551.wide, epoch := z551.epoch, store := t599, locks := z551.locks, last := z551.last, book := z551.book, open_ := z551.open_, out := z551.out, used := z551.used } : lane_State)) hst z
 replace hst := hst.pull3.pull3.pull2.keep3
 obtain rfl := some_inj hm
 exact ⟨_, Nat.lt_succ_self _, _, ({ wide := z551.wide, epoch := z551.epoch, store := t599, locks := z551.locks, last := z551.last, book := z551.book, open_ := z551.open_, out := z551.out, used := z551.used } : lane_State), (i64.wrap (z552 + (1:Int))), _, hx560, (fu 0 (Pt b443 0) z (fu 3 (Pt b431 0) z (fu 4 (Pt b438 0) z (fu 20 r1_4 z (fu 21 (.int .i64 ((a1.Writes).length : Int)) z (fu 22 (.int .i64 (i64.wrap (z552 + (1:Int)))) z z)))))), hL557, hst⟩
}
 {
 replace hm := bif_f hc562 hm
 refine wp_iff (cvb hc562) ?_
 refine wp_exit (then_x (then_x ?_))
 replace hm := inr_up hm hx560
 refine blk_x (tn (wp_seq (wrl ?_)))
 refine wv (Pt b431 1) z z (x_field z underlying49 z sizeOf28 z) (wv (.agg #[U6 a1.ID.Session, U6 a1.ID.Seq]) z z (x_loadN (cs := [U6 a1.ID.Session, U6 a1.ID.Seq]) z isAgg28 sizeOf28 (hst.bcs2 1 z)) (wv (.agg #[U1 (3:Int), U6 a1.ID.Session, U6 a1.ID.Seq, Zi, Zu, Zu, Zs, Zs]) z z (by kernel_rfl) ?_))
 replace hst := hst.pull1
 obtain ⟨w606, hr607, hst⟩ := hst.bx [U1 (3:Int), U6 a1.ID.Session, U6 a1.ID.Seq, Zi, Zu, Zu, Zs, Zs] sizeOf35 z (oC z (oC z (oC z (oC z (oC z (oC z (oC z (oC z oN)))))))) (by kernel_rfl)
 refine wl_unit z z (x_unit hr607) ?_
 refine wl_nil (tn (wp_ret ?_))
 replace hst := hst.own_nil ty_api_Got
 replace hst := hst.own_nil (tySl ty_api_Pair)
 replace hst := hst.pull3
 replace hst := objO_some hst
 obtain rfl := some_inj hm
 refine post_ret (vs := [.agg #[U1 (3:Int), U6 a1.ID.Session, U6 a1.ID.Seq, Zi, Zu, Zu, Zs, Zs]]) results49 (rvs_cons (rv_cell (cs := [U1 (3:Int), U6 a1.ID.Session, U6 a1.ID.Seq, Zi, Zu, Zu, Zs, Zs]) z isAgg35 sizeOf35 (hst.bcs3 0 z)) rvs_nil) ?_
 replace hst := hst.pull1.pull2
 exact ⟨_, Zs, Zs, z, hI0, hst.keep3⟩
}
}
 {
 replace hm := bif_f hc464 hm
 refine wp_iff (cvb hc464) ?_
 refine wp_skip (tn (wp_seq (wrl ?_)))
 refine wv (Pt b431 1) z z (x_field z underlying49 z sizeOf28 z) (wv (.agg #[U6 a1.ID.Session, U6 a1.ID.Seq]) z z (x_loadN (cs := [U6 a1.ID.Session, U6 a1.ID.Seq]) z isAgg28 sizeOf28 (hst.bcs9 1 z)) (wv (.agg #[U1 (3:Int), U6 a1.ID.Session, U6 a1.ID.Seq, Zi, Zu, Zu, Zs, Zs]) z z (by kernel_rfl) ?_))
 replace hst := hst.pull8
 obtain ⟨w610, hr611, hst⟩ := hst.bx [U1 (3:Int), U6 a1.ID.Session, U6 a1.ID.Seq, Zi, Zu, Zu, Zs, Zs] sizeOf35 z (oC z (oC z (oC z (oC z (oC z (oC z (oC z (oC z oN)))))))) (by kernel_rfl)
 refine wl_unit z z (x_unit hr611) ?_
 refine wl_nil (tn (wp_ret ?_))
 replace hst := hst.own_nil ty_api_Got
 replace hst := hst.own_nil (tySl ty_api_Pair)
 replace hst := hst.pull10.pull10.pull10.pull10.pull10.pull8.pull10.pull10
 replace hst := at_lane_State_close (pv := Pt b443 0) (x := ({ wide := o0.wide, epoch := o0.epoch, store := o0.store, locks := t458.2, last := o0.last, book := o0.book, open_ := o0.open_, out := o0.out, used := o0.used } : lane_State)) hst z
 replace hst := objO_some hst
 obtain rfl := some_inj hm
 refine post_ret (vs := [.agg #[U1 (3:Int), U6 a1.ID.Session, U6 a1.ID.Seq, Zi, Zu, Zu, Zs, Zs]]) results49 (rvs_cons (rv_cell (cs := [U1 (3:Int), U6 a1.ID.Session, U6 a1.ID.Seq, Zi, Zu, Zu, Zs, Zs]) z isAgg35 sizeOf35 (hst.bcs3 0 z)) rvs_nil) ?_
 replace hst := hst.pull1.pull2
 exact ⟨_, Zs, Zs, z, hI0, hst.keep3⟩
}
}
 {
 replace hm := bif_f hc463 hm
 refine ws_q (v := undef) 8 [9, 10, 11] (by kernel_rfl) z z (yi_off ((wanted_eq z z z (cvb hc463)).trans z)) (ws_q (v := undef) 9 [10, 11] (by kernel_rfl) z z (yi_off ((wanted_eq z z z (cvb hc463)).trans z)) (ws_q (v := undef) 10 [11] (by kernel_rfl) z z (yi_off ((wanted_eq z z z (cvb hc463)).trans z)) (wsr (.bool false) 11 z z z (by kernel_rfl) (fun w hst => x_pick_f hc463 z z) ?_)))
 refine ws_nil ?_
 intro w hst
 refine tn ?_
 refine wp_iff z ?_
 refine wp_skip (tn (wp_seq (wrl ?_)))
 refine wv (Pt b431 1) z z (x_field z underlying49 z sizeOf28 z) (wv (.agg #[U6 a1.ID.Session, U6 a1.ID.Seq]) z z (x_loadN (cs := [U6 a1.ID.Session, U6 a1.ID.Seq]) z isAgg28 sizeOf28 (hst.bcs9 1 z)) (wv (.agg #[U1 (3:Int), U6 a1.ID.Session, U6 a1.ID.Seq, Zi, Zu, Zu, Zs, Zs]) z z (by kernel_rfl) ?_))
 replace hst := hst.pull8
 obtain ⟨w614, hr615, hst⟩ := hst.bx [U1 (3:Int), U6 a1.ID.Session, U6 a1.ID.Seq, Zi, Zu, Zu, Zs, Zs] sizeOf35 z (oC z (oC z (oC z (oC z (oC z (oC z (oC z (oC z oN)))))))) (by kernel_rfl)
 refine wl_unit z z (x_unit hr615) ?_
 refine wl_nil (tn (wp_ret ?_))
 replace hst := hst.own_nil ty_api_Got
 replace hst := hst.own_nil (tySl ty_api_Pair)
 replace hst := hst.pull10.pull10.pull10.pull10.pull10.pull8.pull10.pull10
 replace hst := at_lane_State_close (pv := Pt b443 0) (x := ({ wide := o0.wide, epoch := o0.epoch, store := o0.store, locks := t458.2, last := o0.last, book := o0.book, open_ := o0.open_, out := o0.out, used := o0.used } : lane_State)) hst z
 replace hst := objO_some hst
 obtain rfl := some_inj hm
 refine post_ret (vs := [.agg #[U1 (3:Int), U6 a1.ID.Session, U6 a1.ID.Seq, Zi, Zu, Zu, Zs, Zs]]) results49 (rvs_cons (rv_cell (cs := [U1 (3:Int), U6 a1.ID.Session, U6 a1.ID.Seq, Zi, Zu, Zu, Zs, Zs]) z isAgg35 sizeOf35 (hst.bcs3 0 z)) rvs_nil) ?_
 replace hst := hst.pull1.pull2
 exact ⟨_, Zs, Zs, z, hI0, hst.keep3⟩
}
}
}

theorem session_Table_find_1_ref {w0 w : World} {I : HL} {R : SP} {a0 : session_row} {r0_0 : Value} {r0_1 : Value} {a1 : Int} (f0_0 : Rd ty_api_Got R I r0_0 a0.r.Gots) (f0_1 : Rd (tySl ty_api_Pair) R I r0_1 a0.r.Scans) (hst : St w0 w I [] R) {r : (Int)} (hm : session_Table_find_1 a0 a1 = some r) :
  Calls prog 201 #[.agg #[U6 a0.session, U6 a0.seq, I6 a0.r.E, U6 a0.r.Epoch, U6 a0.r.Index, r0_0, r0_1], U6 a1] w fun e w' => e = .returned (.int .i64 r) ∧ St w0 w' I [] R := by {
 unfold session_Table_find_1 at hm
 refine calls_start (args := [.agg #[U6 a0.session, U6 a0.seq, I6 a0.r.E, U6 a0.r.Epoch, U6 a0.r.Index, r0_0, r0_1], U6 a1]) func201 z ntmps201 (Nat.le_of_ble_eq_true z) ?_
 refine wp_seq (wrl ?_)
 obtain ⟨b314, w315, ew316, eb317, hst⟩ := hst.box [U6 a0.session, U6 a0.seq, I6 a0.r.E, U6 a0.r.Epoch, U6 a0.r.Index, r0_0, r0_1] 242
 refine wl_run (v := Pt b314 0) (w' := w315) z z (x_al (by kernel_rfl) ew316 eb317) ?_
 refine wv (.int .i64 (0:Int)) z z z (wl_nil (tn (wp_seq (wrl (wv (Pt b314 0) z z (x_field z underlying242 z sizeOf26 z) (wv (.int .u64 a0.session) z z (x_load z isAgg26 (hst.bc0 z)) (wv (.int .u64 a1) z z z ?_)))))))
 obtain ⟨t319, ht320, hm⟩ := bind_some hm
 refine wc call131 [U6 a0.session, U6 a1] z z z ?_
 refine (cmp_Compare_uint64_ref hst.to0 ht320).mono ?_
 rintro _ w321 ⟨rfl, hst⟩
 refine ⟨_, z, ?_⟩
 replace hst := hst.of0
 refine wv (.int .i64 t319) z z z (wl_nil (tn (wp_ret ?_)))
 obtain rfl := some_inj hm
 refine post_ret (vs := [I6 t319]) results201 (rvs_cons (rv_tmp z) rvs_nil) ?_
 exact ⟨z, hst.keep0⟩
}

theorem session_Table_find_ref {w0 w : World} {I : HL} {R : SP} {a0 : (Option session_Table)} {p0 : Value} {a1 : Int}  (hst : St w0 w I [objO at_session_Table p0 a0] R) {r : (Int × Bool)} (hm : session_Table_find a0 a1 = some r) :
  Calls prog 148 #[p0, U6 a1] w fun e w' => e = .returned (.tuple #[I6 r.1, .bool r.2]) ∧ St w0 w' I [objO at_session_Table p0 a0] R := by {
 rcases a0 with _ | o0
 {
 obtain ⟨rfl, hst'⟩ := objO_none hst
 clear hst
 have hst := hst'
 clear hst'
 dsimp only [session_Table_find] at hm
 refine calls_start (args := [.pointer none, U6 a1]) func148 z ntmps148 (Nat.le_of_ble_eq_true z) ?_
 refine wp_seq (wrl (wv (.int .i64 (0:Int)) z z z (wv (.bool false) z z z (wl_nil (tn (wp_seq (wp_seq (wrl (wv (.pointer none) z z z (wv (.bool true) z z (by kernel_rfl) (wl_nil (tn ?_))))))))))))
 refine wp_ift z ?_
 refine wp_seq (wrl (wv (.int .i64 (0:Int)) z z z (wv (.bool false) z z z (wl_nil (tn (wp_ret (then_r ?_)))))))
 replace hst := hst.objO_nil at_session_Table
 obtain rfl := some_inj hm
 refine post_ret (vs := [Zi, .bool false]) results148 (rvs_cons (rv_tmp z) (rvs_cons (rv_tmp z) rvs_nil)) ?_
 exact ⟨z, hst.keep1⟩
}
 {
 replace hst := objO_get hst
 dsimp only [session_Table_find] at hm
 refine calls_start (args := [p0, U6 a1]) func148 z ntmps148 (Nat.le_of_ble_eq_true z) ?_
 refine wp_seq (wrl (wv (.int .i64 (0:Int)) z z z (wv (.bool false) z z z (wl_nil (tn (wp_seq (wp_seq (wrl (wv (p0) z z z ?_)))))))))
 obtain ⟨b393, v394, rfl, hst'⟩ := at_session_Table_open hst
 clear hst
 have hst := hst'
 clear hst'
 refine wv (.bool false) z z (by kernel_rfl) (wl_nil (tn ?_))
 refine wp_iff z ?_
 refine wp_skip (tn (wp_seq (wrl ?_)))
 refine wv (Pt b393 0) z z z (wv (Pt b393 0) z z z (wv (Pt b393 0) z z (x_field z underlying206 z sizeOf204 z) (wv (v394) z z (x_load z isAgg204 (hst.bc0 z)) (wv (.int .u64 a1) z z z ?_))))
 obtain ⟨y500, hq501, hm⟩ := bind_some hm
 refine wl_call z z (x_callv call200 (caps := []) z (vs := [v394, U6 a1, .func (.func 201) #[] #[]]) z) ?_
 refine Calls.mono (show Calls prog 200 #[v394, U6 a1, .func (.func 201) #[] #[]] _ (fun e w' => ∃ (z497 : Int) (z498 : Bool), (z497, z498) = y500 ∧ e = .returned (.tuple #[I6 z497, .bool z498]) ∧ St w0 w' I [cells b393 [v394], ownS ty_session_row v394 o0.l] R) from ?_) ?_
 {
 clear hm; have hm := hq501
 refine calls_start (args := [v394, U6 a1, .func (.func 201) #[] #[]]) func200 z ntmps200 (Nat.le_of_ble_eq_true z) ?_
 refine wp_seq (wrl (wv (.int .i64 (0:Int)) z z z (wv (.bool false) z z z (wl_nil (tn (wp_seq (wrl (wv (v394) z z z (wv (.int .i64 ((o0.l).length : Int)) z z (x_len z underlying204 hst.sv1) (wv (.int .i64 ((o0.l).length : Int)) z z z (wl_nil (tn (wp_seq (wrl (wv (.int .i64 ((o0.l).length : Int)) z z z (wv (.int .i64 (0:Int)) z z z (wv (.int .i64 ((o0.l).length : Int)) z z z (wl_nil (tn ?_)))))))))))))))))))
 obtain ⟨y474, hm, hx475⟩ := bind_some hm
 refine wp_cut (fun a w => ∃ (z471 : Int) (σ472 : Nat → Value), (session_Table_find_j0 o0 a1) z471 = some y500 ∧ a = Fr 49 (upd (upd (upd (upd (upd σ472 0 (v394)) 1 (.int .u64 a1)) 2 (.func (.func 201) #[] #[])) 8 (.int .i64 ((o0.l).length : Int))) 9 (.int .i64 z471)) ∧ St w0 w I [ownS ty_session_row v394 o0.l, cells b393 [v394]] R) ?_ ?_
 {
 refine wp_block ?_
 obtain ⟨n443, hm⟩ := loopO_some hm
 refine wp_loop_n (fun n a w => ∃ (z440 : Int) (z441 : Int) (σ442 : Nat → Value), loopN (session_Table_find_l1 o0 a1) n (z440, z441) = some y474 ∧ a = Fr 49 (upd (upd (upd (upd (upd (upd σ442 0 (v394)) 1 (.int .u64 a1)) 2 (.func (.func 201) #[] #[])) 8 (.int .i64 ((o0.l).length : Int))) 9 (.int .i64 z441)) 10 (.int .i64 z440)) ∧ St w0 w I [cells b393 [v394], ownS ty_session_row v394 o0.l] R) n443 ⟨((o0.l).length : Int), (0:Int), _, hm, (fu 0 v394 z (fu 1 (.int .u64 a1) z (fu 2 (.func (.func 201) #[] #[]) z (fu 8 (.int .i64 ((o0.l).length : Int)) z (fu 9 (.int .i64 (0:Int)) z (fu 10 (.int .i64 ((o0.l).length : Int)) z z)))))), hst⟩ ?_
 rintro n449 _ w444 ⟨z440, z441, σ442, hm, rfl, hst⟩
 obtain ⟨n446, y447, rfl, hm, hx448⟩ := loopN_some hm
 dsimp only [session_Table_find_l1] at hm
 refine wp_seq (wp_seq (wrl (wv (.int .i64 z441) z z z (wv (.int .i64 z440) z z z (wv (.bool (decide (z441 < z440))) z z z (wl_nil (tn ?_)))))))
 refine bsplit (decide (z441 < z440)) (fun hc450 => ?_) (fun hc450 => ?_)
 {
 replace hm := bif_t hc450 hm
 refine wp_ift (cvb hc450) ?_
 refine wp_skip (tn (wp_block (wp_seq (wrl ?_))))
 refine wv (.int .i64 z441) z z z (wv (.int .i64 z440) z z z (wv (.int .i64 (i64.wrap (z441 + z440))) z z z (wv (.int .u64 (u64.wrap (i64.wrap (z441 + z440)))) z z (by kernel_rfl) (wv (.int .u64 (iShr .u64 (u64.wrap (i64.wrap (z441 + z440))) (1:Int))) z z (x_shr (by decide) z z) (wv (.int .i64 (i64.wrap (iShr .u64 (u64.wrap (i64.wrap (z441 + z440))) (1:Int)))) z z (by kernel_rfl) (wv (.int .i64 (i64.wrap (iShr .u64 (u64.wrap (i64.wrap (z441 + z440))) (1:Int)))) z z z (wl_nil (tn (wp_seq (wrl (wv (.func (.func 201) #[] #[]) z z z (wv (v394) z z z (wv (.int .i64 (i64.wrap (iShr .u64 (u64.wrap (i64.wrap (z441 + z440))) (1:Int)))) z z z ?_)))))))))))))
 obtain ⟨x451, hx452, hm⟩ := bind_some hm
 obtain ⟨h453, h454, hi455⟩ := geto_some hx452
 refine wv (.pointer (some (eAddr v394 ((i64.wrap (iShr .u64 (u64.wrap (i64.wrap (z441 + z440))) (1:Int))).toNat * 7 + 0)))) z z (x_index z z underlying204 sizeOf242 hst.sv1 h453 h454) ?_
 obtain ⟨cs456, hr457, hc458⟩ := hst.og1 hi455
 obtain ⟨v459, v462, rfl, f460, f463, -⟩ := hr457
 refine wv (.agg #[U6 x451.session, U6 x451.seq, I6 x451.r.E, U6 x451.r.Epoch, U6 x451.r.Index, v459, v462]) z z (x_loadN (cs := [U6 x451.session, U6 x451.seq, I6 x451.r.E, U6 x451.r.Epoch, U6 x451.r.Index, v459, v462]) z isAgg242 sizeOf242 (eCells (o := 0) hc458 z)) (wv (.int .u64 a1) z z z ?_)
 obtain ⟨t465, ht466, hm⟩ := bind_some hm
 refine wl_call z z (x_callv call201 (caps := []) z (vs := [.agg #[U6 x451.session, U6 x451.seq, I6 x451.r.E, U6 x451.r.Epoch, U6 x451.r.Index, v459, v462], U6 a1]) z) ?_
 refine (session_Table_find_1_ref (f460.mono ro_rd) (f463.mono ro_rd) hst.to0 ht466).mono ?_
 rintro _ w467 ⟨rfl, hst⟩
 refine ⟨_, z, ?_⟩
 replace hst := hst.of0
 refine wv (.bool (decide (t465 < (0:Int)))) z z z (wl_nil (tn ?_))
 refine bsplit (decide (t465 < (0:Int))) (fun hc470 => ?_) (fun hc470 => ?_)
 {
 replace hm := bif_t hc470 hm
 refine wp_ift (cvb hc470) ?_
 refine wrl (wv (.int .i64 (i64.wrap (iShr .u64 (u64.wrap (i64.wrap (z441 + z440))) (1:Int)))) z z z (wv (.int .i64 (i64.wrap ((i64.wrap (iShr .u64 (u64.wrap (i64.wrap (z441 + z440))) (1:Int))) + (1:Int)))) z z z (wv (.int .i64 (i64.wrap ((i64.wrap (iShr .u64 (u64.wrap (i64.wrap (z441 + z440))) (1:Int))) + (1:Int)))) z z z (wl_nil (blk_n (tn ?_))))))
 replace hst := hst.pull1.pull1.keep2
 obtain rfl := some_inj hm
 exact ⟨_, Nat.lt_succ_self _, z440, (i64.wrap ((i64.wrap (iShr .u64 (u64.wrap (i64.wrap (z441 + z440))) (1:Int))) + (1:Int))), _, hx448, (fu 0 v394 z (fu 1 (.int .u64 a1) z (fu 2 (.func (.func 201) #[] #[]) z (fu 8 (.int .i64 ((o0.l).length : Int)) z (fu 9 (.int .i64 (i64.wrap ((i64.wrap (iShr .u64 (u64.wrap (i64.wrap (z441 + z440))) (1:Int))) + (1:Int)))) z (fu 10 (.int .i64 z440) z z)))))), hst⟩
}
 {
 replace hm := bif_f hc470 hm
 refine wp_iff (cvb hc470) ?_
 refine wrl (wv (.int .i64 (i64.wrap (iShr .u64 (u64.wrap (i64.wrap (z441 + z440))) (1:Int)))) z z z (wv (.int .i64 (i64.wrap (iShr .u64 (u64.wrap (i64.wrap (z441 + z440))) (1:Int)))) z z z (wl_nil (blk_n (tn ?_)))))
 replace hst := hst.pull1.pull1.keep2
 obtain rfl := some_inj hm
 exact ⟨_, Nat.lt_succ_self _, (i64.wrap (iShr .u64 (u64.wrap (i64.wrap (z441 + z440))) (1:Int))), z441, _, hx448, (fu 0 v394 z (fu 1 (.int .u64 a1) z (fu 2 (.func (.func 201) #[] #[]) z (fu 8 (.int .i64 ((o0.l).length : Int)) z (fu 9 (.int .i64 z441) z (fu 10 (.int .i64 (i64.wrap (iShr .u64 (u64.wrap (i64.wrap (z441 + z440))) (1:Int)))) z z)))))), hst⟩
}
}
 {
 replace hm := bif_f hc450 hm
 refine wp_iff (cvb hc450) ?_
 refine wp_exit (then_x (then_x ?_))
 replace hm := inr_up hm hx448
 refine blk_x (tn ?_)
 replace hst := hst.pull1.keep2
 obtain rfl := some_inj hm
 exact ⟨z441, _, hx475, (fu 0 v394 z (fu 1 (.int .u64 a1) z (fu 2 (.func (.func 201) #[] #[]) z (fu 8 (.int .i64 ((o0.l).length : Int)) z (fu 9 (.int .i64 z441) z z))))), hst⟩
}
}
 {
 clear hst
 rintro _ w476 ⟨z471, σ472, hm, rfl, hst⟩
 dsimp only [session_Table_find_j0] at hm
 refine wp_seq (wrl (wv (.int .i64 z471) z z z (wv (.int .i64 z471) z z z (wv (.int .i64 ((o0.l).length : Int)) z z z (wv (.bool (decide (z471 < ((o0.l).length : Int)))) z z z (wv (.bool (decide (z471 < ((o0.l).length : Int)))) z z z ?_))))))
 refine bsplit (decide (z471 < ((o0.l).length : Int))) (fun hc477 => ?_) (fun hc477 => ?_)
 {
 replace hm := bif_t hc477 hm
 refine wv (.func (.func 201) #[] #[]) ((wanted_eq z z z (cvb hc477)).trans z) z z (wv (v394) ((wanted_eq z z z (cvb hc477)).trans z) z z (wv (.int .i64 z471) ((wanted_eq z z z (cvb hc477)).trans z) z z ?_))
 obtain ⟨x478, hx479, hm⟩ := bind_some hm
 obtain ⟨h480, h481, hi482⟩ := geto_some hx479
 refine wv (.pointer (some (eAddr v394 (z471.toNat * 7 + 0)))) ((wanted_eq z z z (cvb hc477)).trans z) z (x_index z z underlying204 sizeOf242 hst.sv0 h480 h481) ?_
 obtain ⟨cs483, hr484, hc485⟩ := hst.og0 hi482
 obtain ⟨v486, v489, rfl, f487, f490, -⟩ := hr484
 refine wv (.agg #[U6 x478.session, U6 x478.seq, I6 x478.r.E, U6 x478.r.Epoch, U6 x478.r.Index, v486, v489]) ((wanted_eq z z z (cvb hc477)).trans z) z (x_loadN (cs := [U6 x478.session, U6 x478.seq, I6 x478.r.E, U6 x478.r.Epoch, U6 x478.r.Index, v486, v489]) z isAgg242 sizeOf242 (eCells (o := 0) hc485 z)) (wv (.int .u64 a1) ((wanted_eq z z z (cvb hc477)).trans z) z z ?_)
 obtain ⟨t492, ht493, hm⟩ := bind_some hm
 refine wl_call ((wanted_eq z z z (cvb hc477)).trans z) z (x_callv call201 (caps := []) z (vs := [.agg #[U6 x478.session, U6 x478.seq, I6 x478.r.E, U6 x478.r.Epoch, U6 x478.r.Index, v486, v489], U6 a1]) z) ?_
 refine (session_Table_find_1_ref (f487.mono ro_rd) (f490.mono ro_rd) hst.to0 ht493).mono ?_
 rintro _ w494 ⟨rfl, hst⟩
 refine ⟨_, z, ?_⟩
 replace hst := hst.of0
 refine wv (.bool (t492 == (0:Int))) ((wanted_eq z z z (cvb hc477)).trans z) z z (wv (.bool (t492 == (0:Int))) z z (x_pick_t hc477 z z) (wv (.int .i64 z471) z z z (wv (.bool (t492 == (0:Int))) z z z (wl_nil (tn (wp_ret ?_))))))
 refine post_ret (vs := [I6 z471, .bool (t492 == (0:Int))]) results200 (rvs_cons (rv_tmp z) (rvs_cons (rv_tmp z) rvs_nil)) ?_
 replace hst := hst.pull1.keep2
 obtain rfl := some_inj hm
 exact ⟨z471, (t492 == (0:Int)), z, z, hst⟩
}
 {
 replace hm := bif_f hc477 hm
 refine wo hc477 z z z z z z (wo hc477 z z z z z z (wo hc477 z z z z z z (wo hc477 z z z z z z (wo hc477 z z z z z z (wo hc477 z z z z z z (wo hc477 z z z z z z (wo hc477 z z z z z z (wv (.bool false) z z (x_pick_f hc477 z z) (wv (.int .i64 z471) z z z (wv (.bool false) z z z (wl_nil (tn (wp_ret ?_)))))))))))))
 refine post_ret (vs := [I6 z471, .bool false]) results200 (rvs_cons (rv_tmp z) (rvs_cons (rv_tmp z) rvs_nil)) ?_
 replace hst := hst.pull1.keep2
 obtain rfl := some_inj hm
 exact ⟨z471, false, z, z, hst⟩
}
}
}
 clear hst
 rintro _ w502 ⟨z497, z498, rfl, rfl, hst⟩
 refine ⟨_, z, ?_⟩
 try dsimp only at hm
 refine wv (.int .i64 z497) z z z (wv (.bool z498) z z z (wv (.int .i64 z497) z z z (wv (.bool z498) z z z (wl_nil (tn (wp_ret ?_))))))
 replace hst := hst.pull1.pull1
 replace hst := at_session_Table_close (pv := Pt b393 0) (x := o0) hst z
 replace hst := objO_some hst
 obtain rfl := some_inj hm
 refine post_ret (vs := [I6 z497, .bool z498]) results148 (rvs_cons (rv_tmp z) (rvs_cons (rv_tmp z) rvs_nil)) ?_
 exact ⟨z, hst.keep1⟩
}
}

end Go.Proofs.YtgnkkopjkgdieaaGreat
