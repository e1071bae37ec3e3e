/- The Go functions refine their models, part 1. -/
import Derived.Test.YtkfifhkjdibadaaSessionBytesR0
set_option linter.unusedVariables false
set_option linter.unusedSimpArgs false
set_option maxRecDepth 100000
set_option maxHeartbeats 4000000
namespace Go.Proofs.Ytkfifhkjdibadaa
open Go Go.V
open _root_.Go.Proofs.Try IntKind
attribute [local irreducible] wpList Code.wp wpQuiet Calls bodyPost Oper.wp wpS Nx PendOK YieldsIn
theorem session_Table_Encode_ref {w0 w : World} {I : HL} {R : SP} {a0 : (Option session_Table)} {p0 : Value}  (hst : St w0 w I [objO at_session_Table p0 a0] R) {r : ((List Int))} (hm : session_Table_Encode a0 = some r) :
  Calls prog 19 #[p0] w fun e w' => ∃ (q0_0 : Value), e = .returned (q0_0) ∧ St w0 w' I [ownS (tyInt .u8) q0_0 r, objO at_session_Table p0 a0] R := by {
 rcases a0 with _ | o0
 {
 obtain ⟨rfl, hst'⟩ := objO_none hst
 clear hst
 have hst := hst'
 clear hst'
 dsimp only [session_Table_Encode] at hm
 refine calls_start (args := [.pointer none]) func19 z ntmps19 (Nat.le_of_ble_eq_true z) ?_
 refine wp_seq (wrl (wv ((.slice none 0 0)) z z z (wl_nil (tn (wp_seq (wrl (wv (.agg #[Zs]) z z (by kernel_rfl) ?_)))))))
 obtain ⟨b305, w306, ew307, eb308, hst⟩ := hst.box [Zs] 82
 refine wl_run (v := Pt b305 0) (w' := w306) z z (x_al (by kernel_rfl) ew307 eb308) ?_
 refine wv (Pt b305 0) z z z (wl_nil (tn (wp_seq (wrl (wv (Pt b305 0) z z z (wv (.pointer none) z z z ?_))))))
 replace hst := hst.objO_nil at_session_Table
 obtain ⟨t312, ht313, hm⟩ := bind_some hm
 refine wc call15 [.pointer none] z z z ?_
 refine (session_Table_Len_ref hst.to1 ht313).mono ?_
 rintro _ w314 ⟨rfl, hst⟩
 refine ⟨_, z, ?_⟩
 replace hst := hst.of1
 refine wv (.int .u64 (u64.wrap t312)) z z (by kernel_rfl) ?_
 replace hst := hst.own_nil (tyInt .u8)
 replace hst := hst.pull2
 replace hst := at_octet_Writer_close (pv := Pt b305 0) (x := ({ p := [] } : octet_Writer)) hst z
 obtain ⟨t317, ht318, hm⟩ := bind_some hm
 refine wc call34 [Pt b305 0, U6 (u64.wrap t312), I6 (4:Int)] z z z ?_
 refine (octet_Writer_Num_ref hst.to1 ht318).mono ?_
 rintro _ w319 ⟨rfl, hst⟩
 refine ⟨_, z, ?_⟩
 replace hst := hst.of1
 refine wl_nil (tn (wp_seq (wp_seq (wrl (wv (.pointer none) z z z ?_)))))
 replace hst := hst.objO_nil at_session_Table
 obtain ⟨t323, ht324, hm⟩ := bind_some hm
 refine wc call15 [.pointer none] z z z ?_
 refine (session_Table_Len_ref hst.to1 ht324).mono ?_
 rintro _ w325 ⟨rfl, hst⟩
 refine ⟨_, z, ?_⟩
 replace hst := hst.of1
 refine wv (.int .i64 (0:Int)) z z z (wl_nil (tn (wp_block ?_)))
 replace hst := hst.sub.pull1.sub
 obtain ⟨n330, hm⟩ := loopO_some hm
 refine wp_loop_n (fun n a w => ∃ (σ329 : Nat → Value), loopN (session_Table_Encode_l0 t323 t317) n () = some r ∧ a = Fr 49 (upd (upd (upd (upd σ329 0 (.pointer none)) 3 (Pt b305 0)) 13 (.int .i64 t323)) 14 (.int .i64 (0:Int))) ∧ St w0 w I [at_octet_Writer (Pt b305 0) t317] R) n330 ⟨_, hm, (fu 0 (.pointer none) z (fu 3 (Pt b305 0) z (fu 13 (.int .i64 t323) z (fu 14 (.int .i64 (0:Int)) z z)))), hst⟩ ?_
 rintro n336 _ w331 ⟨σ329, hm, rfl, hst⟩
 obtain ⟨n333, y334, rfl, hm, hx335⟩ := loopN_some hm
 dsimp only [session_Table_Encode_l0] at hm
 refine wp_seq (wrl (wv (.bool (decide ((0:Int) < t323))) z z z (wl_nil (tn (wp_seq ?_)))))
 refine bsplit (decide ((0:Int) < t323)) (fun hc337 => ?_) (fun hc337 => ?_)
 {
 replace hm := bif_t hc337 hm
 refine wp_ift (cvb hc337) ?_
 refine wp_skip (tn (wp_seq (wp_block (wp_seq (wrl ?_)))))
 refine wv (.int .i64 (0:Int)) z z z (wv (.int .i64 (0:Int)) z z z (wl_nil (tn (wp_seq ?_))))
 refine wp_region_St hst 19 [0, 1, 2, 3, 4, 5, 6, 7, 8, 9, 10, 11, 12, 13, 14, 15, 16, 17, 18] [0, 0, 2, 6, 14, 0, 62, 126, 254, 511, 0, 1024, 3072, 7168, 0, 31744, 64512, 130048, 262143] [] z (by kernel_rfl) (by kernel_rfl) Try.mixed (by kernel_rfl) ?_
 refine wsr (Pt b305 0) 0 z z z (by kernel_rfl) (fun w hst => z) (wsr (.pointer none) 1 z z z (by kernel_rfl) (fun w hst => z) ?_)
 cases hm
}
 {
 replace hm := bif_f hc337 hm
 refine wp_iff (cvb hc337) ?_
 refine wp_exit (then_x (then_x ?_))
 replace hm := inr_up hm hx335
 refine blk_x (tn (wp_seq (wrl ?_)))
 refine wv (Pt b305 0) z z z ?_
 obtain ⟨t338, ht339, hm⟩ := bind_some hm
 refine wc call36 [Pt b305 0] z z z ?_
 refine (octet_Writer_Done_ref hst.to1 ht339).mono ?_
 rintro _ w340 ⟨v343, rfl, hst⟩
 refine ⟨_, z, ?_⟩
 replace hst := hst.of1
 refine wv (v343) z z z (wl_nil (tn (wp_ret ?_)))
 replace hst := hst.objO_nil at_session_Table
 obtain rfl := some_inj hm
 refine post_ret (vs := [v343]) results19 (rvs_cons (rv_tmp z) rvs_nil) ?_
 replace hst := hst.pull1
 exact ⟨v343, z, hst.keep2⟩
}
}
 {
 replace hst := objO_get hst
 dsimp only [session_Table_Encode] at hm
 refine calls_start (args := [p0]) func19 z ntmps19 (Nat.le_of_ble_eq_true z) ?_
 refine wp_seq (wrl (wv ((.slice none 0 0)) z z z (wl_nil (tn (wp_seq (wrl (wv (.agg #[Zs]) z z (by kernel_rfl) ?_)))))))
 obtain ⟨b347, w348, ew349, eb350, hst⟩ := hst.box [Zs] 82
 refine wl_run (v := Pt b347 0) (w' := w348) z z (x_al (by kernel_rfl) ew349 eb350) ?_
 refine wv (Pt b347 0) z z z (wl_nil (tn (wp_seq (wrl (wv (Pt b347 0) z z z (wv (p0) z z z ?_))))))
 replace hst := hst.pull1
 replace hst := objO_some hst
 obtain ⟨t353, ht354, hm⟩ := bind_some hm
 refine wc call15 [p0] z z z ?_
 refine (session_Table_Len_ref hst.to1 ht354).mono ?_
 rintro _ w355 ⟨rfl, hst⟩
 refine ⟨_, z, ?_⟩
 replace hst := hst.of1
 replace hst := objO_get hst
 refine wv (.int .u64 (u64.wrap t353)) z z (by kernel_rfl) ?_
 replace hst := hst.own_nil (tyInt .u8)
 replace hst := hst.pull2
 replace hst := at_octet_Writer_close (pv := Pt b347 0) (x := ({ p := [] } : octet_Writer)) hst z
 obtain ⟨t358, ht359, hm⟩ := bind_some hm
 refine wc call34 [Pt b347 0, U6 (u64.wrap t353), I6 (4:Int)] z z z ?_
 refine (octet_Writer_Num_ref hst.to1 ht359).mono ?_
 rintro _ w360 ⟨rfl, hst⟩
 refine ⟨_, z, ?_⟩
 replace hst := hst.of1
 refine wl_nil (tn (wp_seq (wp_seq (wrl (wv (p0) z z z ?_)))))
 replace hst := hst.pull1
 replace hst := objO_some hst
 obtain ⟨t363, ht364, hm⟩ := bind_some hm
 refine wc call15 [p0] z z z ?_
 refine (session_Table_Len_ref hst.to1 ht364).mono ?_
 rintro _ w365 ⟨rfl, hst⟩
 refine ⟨_, z, ?_⟩
 replace hst := hst.of1
 replace hst := objO_get hst
 refine wv (.int .i64 (0:Int)) z z z (wl_nil (tn (wp_block ?_)))
 obtain ⟨n461, hm⟩ := loopO_some hm
 refine wp_loop_n (fun n a w => ∃ (z458 : octet_Writer) (z459 : Int) (σ460 : Nat → Value), loopN (session_Table_Encode_l1 t363 o0) n (z458, z459) = some r ∧ a = Fr 49 (upd (upd (upd (upd σ460 0 (p0)) 3 (Pt b347 0)) 13 (.int .i64 t363)) 14 (.int .i64 z459)) ∧ St w0 w I [at_session_Table p0 o0, at_octet_Writer (Pt b347 0) z458] R) n461 ⟨t358, (0:Int), _, hm, (fu 0 p0 z (fu 3 (Pt b347 0) z (fu 13 (.int .i64 t363) z (fu 14 (.int .i64 (0:Int)) z z)))), hst⟩ ?_
 rintro n467 _ w462 ⟨z458, z459, σ460, hm, rfl, hst⟩
 obtain ⟨n464, y465, rfl, hm, hx466⟩ := loopN_some hm
 dsimp only [session_Table_Encode_l1] at hm
 refine wp_seq (wrl (wv (.bool (decide (z459 < t363))) z z z (wl_nil (tn (wp_seq ?_)))))
 refine bsplit (decide (z459 < t363)) (fun hc468 => ?_) (fun hc468 => ?_)
 {
 replace hm := bif_t hc468 hm
 refine wp_ift (cvb hc468) ?_
 refine wp_skip (tn (wp_seq (wp_block (wp_seq (wrl ?_)))))
 refine wv (.int .i64 z459) z z z (wv (.int .i64 z459) z z z (wl_nil (tn (wp_seq ?_))))
 obtain ⟨b469, v470, rfl, hst'⟩ := at_session_Table_open hst
 clear hst
 have hst := hst'
 clear hst'
 replace hst := hst.pull1
 obtain ⟨css472, hq473, hst⟩ := hst.own_open
 refine wp_region_St hst 19 [0, 1, 2, 3, 4, 5, 6, 7, 8, 9, 10, 11, 12, 13, 14, 15, 16, 17, 18] [0, 0, 2, 6, 14, 0, 62, 126, 254, 511, 0, 1024, 3072, 7168, 0, 31744, 64512, 130048, 262143] [] z (by kernel_rfl) (by kernel_rfl) Try.mixed (by kernel_rfl) ?_
 refine wsr (Pt b347 0) 0 z z z (by kernel_rfl) (fun w hst => z) (wsr (Pt b469 0) 1 z z z (by kernel_rfl) (fun w hst => z) (wsr (Pt b469 0) 2 z z z (by kernel_rfl) (fun w hst => z) (wsr (Pt b469 0) 3 z z z (by kernel_rfl) (fun w hst => x_field z underlying56 z sizeOf54 z) (wsr (v470) 4 z z z (by kernel_rfl) (fun w hst => x_load z isAgg54 (hst.bc1 z)) (wsr (.int .i64 z459) 5 z z z (by kernel_rfl) (fun w hst => z) ?_)))))
 obtain ⟨x474, hx475, hm⟩ := bind_some hm
 obtain ⟨h476, h477, hi478⟩ := geto_some hx475
 refine wsr (.pointer (some (eAddr v470 (z459.toNat * 7 + 0)))) 6 z z z (by kernel_rfl) (fun w hst => x_index z z underlying54 sizeOf71 (hst.rsv 0 z hq473) h476 h477) (wsr (.pointer (some (eAddr v470 (z459.toNat * 7 + 0)))) 7 z z z (by kernel_rfl) (fun w hst => x_field_e z underlying71 z sizeOf30 z) ?_)
 obtain ⟨cs479, hc481, hr480⟩ := Reps.get hq473 hi478
 obtain ⟨v482, v485, rfl, f483, f486, -⟩ := hr480
 refine wsr (.int .u64 x474.session) 8 z z z (by kernel_rfl) (fun w hst => x_load z isAgg30 ((hst.rcell 0 z hc481) 0 _ z)) (wsr (Pt b469 0) 10 z z z (by kernel_rfl) (fun w hst => z) (wsr (Pt b469 0) 11 z z z (by kernel_rfl) (fun w hst => z) (wsr (Pt b469 0) 12 z z z (by kernel_rfl) (fun w hst => x_field z underlying56 z sizeOf54 z) (wsr (v470) 13 z z z (by kernel_rfl) (fun w hst => x_load z isAgg54 (hst.bc1 z)) (wsr (.int .i64 z459) 14 z z z (by kernel_rfl) (fun w hst => z) (wsr (.pointer (some (eAddr v470 (z459.toNat * 7 + 0)))) 15 z z z (by kernel_rfl) (fun w hst => x_index z z underlying54 sizeOf71 (hst.rsv 0 z hq473) h476 h477) (wsr (.pointer (some (eAddr v470 (z459.toNat * 7 + 1)))) 16 z z z (by kernel_rfl) (fun w hst => x_field_e z underlying71 z sizeOf30 z) (wsr (.int .u64 x474.seq) 17 z z z (by kernel_rfl) (fun w hst => x_load z isAgg30 ((hst.rcell 0 z hc481) 1 _ z)) ?_))))))))
 refine ws_e1 9 (by kernel_rfl) ?_
 refine nxe [18] (by kernel_rfl) z z ?_
 clear hst
 intro w hst
 replace hst := hst.pull2
 obtain ⟨t488, ht489, hm⟩ := bind_some hm
 refine wec call34 [Pt b347 0, U6 x474.session, I6 (8:Int)] z z ?_
 refine (octet_Writer_Num_ref hst.to1 ht489).mono ?_
 rintro _ w490 ⟨rfl, hst⟩
 refine ⟨_, z, ?_⟩
 replace hst := hst.of1
 refine ws_next (pend' := [(17, U6 x474.seq), (16, .pointer (some (eAddr v470 (z459.toNat * 7 + 1)))), (15, .pointer (some (eAddr v470 (z459.toNat * 7 + 0)))), (14, I6 z459), (13, v470), (12, Pt b469 0), (11, Pt b469 0), (10, Pt b469 0)]) hst (by kernel_rfl) (pkr z z (fun w hst => x_load z isAgg30 ((hst.rcell 1 z hc481) 1 _ z)) (pkr z z (fun w hst => x_field_e z underlying71 z sizeOf30 z) (pkr z z (fun w hst => x_index z z underlying54 sizeOf71 (hst.rsv 1 z hq473) h476 h477) (pkr z z (fun w hst => z) (pkr z z (fun w hst => x_load z isAgg54 (hst.bc2 z)) (pkr z z (fun w hst => x_field z underlying56 z sizeOf54 z) (pkr z z (fun w hst => z) (pkr z z (fun w hst => z) pk_nil)))))))) ?_
 refine ws_e1 18 (by kernel_rfl) ?_
 refine nxe [] (by kernel_rfl) z z ?_
 clear hst
 intro w hst
 obtain ⟨t493, ht494, hm⟩ := bind_some hm
 refine wec call34 [Pt b347 0, U6 x474.seq, I6 (8:Int)] z z ?_
 refine (octet_Writer_Num_ref hst.to1 ht494).mono ?_
 rintro _ w495 ⟨rfl, hst⟩
 refine ⟨_, z, ?_⟩
 replace hst := hst.of1
 refine ws_next (pend' := []) hst (by kernel_rfl) pk_nil ?_
 refine ws_nil ?_
 intro w hst
 replace hst := hst.pull1.own_close hq473
 refine tn (wrl (wv (Pt b347 0) z z z (wv (Pt b469 0) z z z (wv (Pt b469 0) z z z (wv (Pt b469 0) z z (x_field z underlying56 z sizeOf54 z) (wv (v470) z z (x_load z isAgg54 (hst.bc2 z)) (wv (.int .i64 z459) z z z (wv (.pointer (some (eAddr v470 (z459.toNat * 7 + 0)))) z z (x_index z z underlying54 sizeOf71 hst.sv0 h476 h477) (wv (.pointer (some (eAddr v470 (z459.toNat * 7 + 2)))) z z (x_field_e z underlying71 z sizeOf36 z) ?_)))))))))
 obtain ⟨cs498, hr499, hc500⟩ := hst.og0 hi478
 obtain ⟨v501, v504, rfl, f502, f505, -⟩ := hr499
 refine wv (.agg #[I6 x474.r.E, U6 x474.r.Epoch, U6 x474.r.Index, v501, v504]) z z (x_loadN (cs := [I6 x474.r.E, U6 x474.r.Epoch, U6 x474.r.Index, v501, v504]) z isAgg36 sizeOf36 (eCells (o := 2) hc500 z)) ?_
 replace hst := hst.pull1
 obtain ⟨t507, ht508, hm⟩ := bind_some hm
 refine wc call35 [Pt b347 0, .agg #[I6 x474.r.E, U6 x474.r.Epoch, U6 x474.r.Index, v501, v504]] z z z ?_
 refine (command_LayReply_ref (f502.mono ro_rd) (f505.mono ro_rd) hst.to1 ht508).mono ?_
 rintro _ w509 ⟨rfl, hst⟩
 refine ⟨_, z, ?_⟩
 replace hst := hst.of1
 refine wl_nil (blk_n (tn (wrl (wv (.int .i64 (i64.wrap (z459 + (1:Int)))) z z z (wv (.int .i64 (i64.wrap (z459 + (1:Int)))) z z z (wl_nil (tn ?_)))))))
 replace hst := hst.pull1.pull2
 replace hst := at_session_Table_close (pv := Pt b469 0) (x := o0) hst z
 replace hst := hst.pull1.pull1.keep2
 obtain rfl := some_inj hm
 exact ⟨_, Nat.lt_succ_self _, t507, (i64.wrap (z459 + (1:Int))), _, hx466, (fu 0 (Pt b469 0) z (fu 3 (Pt b347 0) z (fu 13 (.int .i64 t363) z (fu 14 (.int .i64 (i64.wrap (z459 + (1:Int)))) z z)))), hst⟩
}
 {
 replace hm := bif_f hc468 hm
 refine wp_iff (cvb hc468) ?_
 refine wp_exit (then_x (then_x ?_))
 replace hm := inr_up hm hx466
 refine blk_x (tn (wp_seq (wrl ?_)))
 refine wv (Pt b347 0) z z z ?_
 replace hst := hst.pull1
 obtain ⟨t512, ht513, hm⟩ := bind_some hm
 refine wc call36 [Pt b347 0] z z z ?_
 refine (octet_Writer_Done_ref hst.to1 ht513).mono ?_
 rintro _ w514 ⟨v517, rfl, hst⟩
 refine ⟨_, z, ?_⟩
 replace hst := hst.of1
 refine wv (v517) z z z (wl_nil (tn (wp_ret ?_)))
 replace hst := hst.pull1
 replace hst := objO_some hst
 obtain rfl := some_inj hm
 refine post_ret (vs := [v517]) results19 (rvs_cons (rv_tmp z) rvs_nil) ?_
 replace hst := hst.pull1
 exact ⟨v517, z, hst.keep2⟩
}
}
}

theorem octet_Read_ref {w0 w : World} {I : HL} {R : SP} {a0 : (List Int)} {r0_0 : Value} (f0_0 : Ro (tyInt .u8) I r0_0 a0) (hst : St w0 w I [] R) {r : (octet_Reader)} (hm : octet_Read a0 = some r) :
  Calls prog 27 #[r0_0] w fun e w' => ∃ (q0 : Value), e = .returned (q0) ∧ St w0 w' I [at_octet_Reader q0 r] R := by {
 unfold octet_Read at hm
 refine calls_start (args := [r0_0]) func27 z ntmps27 (Nat.le_of_ble_eq_true z) ?_
 refine wp_seq (wrl (wv (.pointer none) z z z (wl_nil (tn (wp_seq (wrl (wv (r0_0) z z z (wv (.agg #[r0_0, .bool false]) z z (by obtain ⟨_, _, hv_, _⟩ := (ro_sliceV f0_0); rw [hv_]; kernel_rfl) ?_))))))))
 obtain ⟨b102, w103, ew104, eb105, hst⟩ := hst.box [r0_0, .bool false] 93
 refine wl_run (v := Pt b102 0) (w' := w103) z z (x_al (by kernel_rfl) ew104 eb105) ?_
 refine wv (Pt b102 0) z z z (wl_nil (tn (wp_ret ?_)))
 replace hst := at_octet_Reader_close (pv := Pt b102 0) (x := ({ p := a0, bad := false } : octet_Reader)) hst ⟨z, f0_0⟩
 obtain rfl := some_inj hm
 refine post_ret (vs := [Pt b102 0]) results27 (rvs_cons (rv_tmp z) rvs_nil) ?_
 exact ⟨.pointer (some ⟨b102, 0, none⟩), z, hst.keep1⟩
}

theorem octet_Reader_Bad_ref {w0 w : World} {I : HL} {R : SP} {a0 : octet_Reader} {p0 : Value}  (hst : St w0 w I [at_octet_Reader p0 a0] R) {r : (Bool)} (hm : octet_Reader_Bad a0 = some r) :
  Calls prog 45 #[p0] w fun e w' => e = .returned (.bool r) ∧ St w0 w' I [at_octet_Reader p0 a0] R := by {
 unfold octet_Reader_Bad at hm
 refine calls_start (args := [p0]) func45 z ntmps45 (Nat.le_of_ble_eq_true z) ?_
 refine wp_seq (wrl (wv (.bool false) z z z (wl_nil (tn (wp_seq (wrl (wv (p0) z z z ?_)))))))
 obtain ⟨b114, v115, ⟨rfl, f117⟩, hst'⟩ := at_octet_Reader_open hst
 clear hst
 have hst := hst'
 clear hst'
 refine wv (.bool false) z z (by kernel_rfl) (wv (.bool false) z z z (wv (Pt b114 0) ((wanted_eq z z z z).trans z) z z (wv (Pt b114 0) ((wanted_eq z z z z).trans z) z z (wv (Pt b114 1) ((wanted_eq z z z z).trans z) z (x_field z underlying93 z sizeOf4 z) (wv (.bool a0.bad) ((wanted_eq z z z z).trans z) z (x_load z isAgg4 (hst.bc0 z)) (wv (.bool a0.bad) z z (x_pick_f z z z) (wv (.bool a0.bad) z z z (wl_nil (tn (wp_ret ?_))))))))))
 replace hst := at_octet_Reader_close (pv := Pt b114 0) (x := a0) hst ⟨z, f117⟩
 obtain rfl := some_inj hm
 refine post_ret (vs := [.bool a0.bad]) results45 (rvs_cons (rv_tmp z) rvs_nil) ?_
 exact ⟨z, hst.keep1⟩
}

theorem octet_Reader_Left_ref {w0 w : World} {I : HL} {R : SP} {a0 : octet_Reader} {p0 : Value}  (hst : St w0 w I [at_octet_Reader p0 a0] R) {r : (Int)} (hm : octet_Reader_Left a0 = some r) :
  Calls prog 29 #[p0] w fun e w' => e = .returned (.int .i64 r) ∧ St w0 w' I [at_octet_Reader p0 a0] R := by {
 unfold octet_Reader_Left at hm
 refine calls_start (args := [p0]) func29 z ntmps29 (Nat.le_of_ble_eq_true z) ?_
 refine wp_seq (wrl (wv (.int .i64 (0:Int)) z z z (wl_nil (tn (wp_seq (wp_seq (wrl (wv (p0) z z z ?_))))))))
 obtain ⟨t119, ht120, hm⟩ := bind_some hm
 refine wc call45 [p0] z z z ?_
 refine (octet_Reader_Bad_ref hst.to1 ht120).mono ?_
 rintro _ w121 ⟨rfl, hst⟩
 refine ⟨_, z, ?_⟩
 replace hst := hst.of1
 refine wl_nil (tn ?_)
 refine bsplit t119 (fun hc124 => ?_) (fun hc124 => ?_)
 {
 replace hm := bif_t hc124 hm
 refine wp_ift (cvb hc124) ?_
 refine wp_seq (wrl (wv (.int .i64 (0:Int)) z z z (wl_nil (tn (wp_ret (then_r ?_))))))
 obtain rfl := some_inj hm
 refine post_ret (vs := [Zi]) results29 (rvs_cons (rv_tmp z) rvs_nil) ?_
 exact ⟨z, hst.keep1⟩
}
 {
 replace hm := bif_f hc124 hm
 refine wp_iff (cvb hc124) ?_
 refine wp_skip (tn (wp_seq (wrl ?_)))
 refine wv (p0) z z z ?_
 obtain ⟨b125, v126, ⟨rfl, f128⟩, hst'⟩ := at_octet_Reader_open hst
 clear hst
 have hst := hst'
 clear hst'
 refine wv (Pt b125 0) z z z (wv (Pt b125 0) z z (x_field z underlying93 z sizeOf22 z) (wv (v126) z z (x_load z isAgg22 (hst.bc0 z)) (wv (.int .i64 ((a0.p).length : Int)) z z (x_len z underlying22 (ro_sliceV f128)) (wv (.int .i64 ((a0.p).length : Int)) z z z (wl_nil (tn (wp_ret ?_)))))))
 replace hst := at_octet_Reader_close (pv := Pt b125 0) (x := a0) hst ⟨z, f128⟩
 obtain rfl := some_inj hm
 refine post_ret (vs := [I6 ((a0.p).length : Int)]) results29 (rvs_cons (rv_tmp z) rvs_nil) ?_
 exact ⟨z, hst.keep1⟩
}
}

theorem octet_Reader_spoil_ref {w0 w : World} {I : HL} {R : SP} {a0 : octet_Reader} {p0 : Value}  (hst : St w0 w I [at_octet_Reader p0 a0] R) {r : (octet_Reader)} (hm : octet_Reader_spoil a0 = some r) :
  Calls prog 44 #[p0] w fun e w' => e = .returned (.tuple #[]) ∧ St w0 w' I [at_octet_Reader p0 r] R := by {
 unfold octet_Reader_spoil at hm
 refine calls_start (args := [p0]) func44 z ntmps44 (Nat.le_of_ble_eq_true z) ?_
 refine wp_seq (wrl (wv (p0) z z z ?_))
 obtain ⟨b127, v128, ⟨rfl, f130⟩, hst'⟩ := at_octet_Reader_open hst
 clear hst
 have hst := hst'
 clear hst'
 refine wv (.bool true) z z (by kernel_rfl) (wl_nil (tn ?_))
 refine wp_ift z ?_
 refine wrl (wv (Pt b127 0) z z z (wv (Pt b127 0) z z z (wv (Pt b127 1) z z (x_field z underlying93 z sizeOf4 z) ?_)))
 obtain ⟨w131, hr132, hst⟩ := hst.by_ [v128, .bool true] 1 (.bool true) sizeOf4 z (oC z oN) (by kernel_rfl)
 refine wl_unit z z (x_unit hr132) ?_
 refine wl_nil ?_
 replace hst := at_octet_Reader_close (pv := Pt b127 0) (x := ({ p := a0.p, bad := true } : octet_Reader)) hst ⟨z, f130⟩
 obtain rfl := some_inj hm
 refine post_end (vs := []) results44 rvs_nil ?_
 exact ⟨z, hst.keep1⟩
}

theorem octet_Reader_Num_ref {w0 w : World} {I : HL} {R : SP} {a0 : octet_Reader} {p0 : Value} {a1 : Int}  (hst : St w0 w I [at_octet_Reader p0 a0] R) {r : (Int × octet_Reader)} (hm : octet_Reader_Num a0 a1 = some r) :
  Calls prog 30 #[p0, I6 a1] w fun e w' => e = .returned (.int .u64 r.1) ∧ St w0 w' I [at_octet_Reader p0 r.2] R := by {
 unfold octet_Reader_Num at hm
 refine calls_start (args := [p0, I6 a1]) func30 z ntmps30 (Nat.le_of_ble_eq_true z) ?_
 refine wp_seq (wrl (wv (.int .u64 (0:Int)) z z z (wl_nil (tn (wp_seq (wp_seq (wrl (wv (p0) z z z ?_))))))))
 obtain ⟨b204, v205, ⟨rfl, f207⟩, hst'⟩ := at_octet_Reader_open hst
 clear hst
 have hst := hst'
 clear hst'
 refine wv (.bool false) z z (by kernel_rfl) (wv (.bool false) z z z (wv (Pt b204 0) ((wanted_eq z z z z).trans z) z z (wv (Pt b204 0) ((wanted_eq z z z z).trans z) z z (wv (Pt b204 1) ((wanted_eq z z z z).trans z) z (x_field z underlying93 z sizeOf4 z) (wv (.bool a0.bad) ((wanted_eq z z z z).trans z) z (x_load z isAgg4 (hst.bc0 z)) (wv (.bool a0.bad) z z (x_pick_f z z z) (wv (.bool a0.bad) z z z ?_)))))))
 refine bsplit a0.bad (fun hc208 => ?_) (fun hc208 => ?_)
 {
 replace hm := bif_t hc208 hm
 refine wo hc208 z z z z z z (wo hc208 z z z z z z (wv (.bool true) z z (x_pick_t hc208 z z) (wv (.bool true) z z z (wz z z z z z z (wz z z z z z z (wz z z z z z z (wz z z z z z z (wz z z z z z z (wz z z z z z z (wz z z z z z z (wv (.bool true) z z (x_pick_t z z z) (wl_nil (tn ?_)))))))))))))
 refine wp_ift z ?_
 refine wp_seq (wrl (wv (Pt b204 0) z z z ?_))
 replace hst := at_octet_Reader_close (pv := Pt b204 0) (x := a0) hst ⟨z, f207⟩
 obtain ⟨t209, ht210, hm⟩ := bind_some hm
 refine wc call44 [Pt b204 0] z z z ?_
 refine (octet_Reader_spoil_ref hst.to1 ht210).mono ?_
 rintro _ w211 ⟨rfl, hst⟩
 refine ⟨_, z, ?_⟩
 replace hst := hst.of1
 refine wl_nil (tn (wp_seq (wrl (wv (.int .u64 (0:Int)) z z z (wl_nil (tn (wp_ret (then_r ?_))))))))
 obtain rfl := some_inj hm
 refine post_ret (vs := [Zu]) results30 (rvs_cons (rv_tmp z) rvs_nil) ?_
 exact ⟨z, hst.keep1⟩
}
 {
 replace hm := bif_f hc208 hm
 refine wv (.int .i64 a1) ((wanted_eq z z z (cvb hc208)).trans z) z z (wv (.bool (decide (a1 < (0:Int)))) ((wanted_eq z z z (cvb hc208)).trans z) z z (wv (.bool (decide (a1 < (0:Int)))) z z (x_pick_f hc208 z z) (wv (.bool (decide (a1 < (0:Int)))) z z z ?_)))
 refine bsplit (decide (a1 < (0:Int))) (fun hc214 => ?_) (fun hc214 => ?_)
 {
 replace hm := bif_t hc214 hm
 refine wo hc214 z z z z z z (wo hc214 z z z z z z (wo hc214 z z z z z z (wo hc214 z z z z z z (wo hc214 z z z z z z (wo hc214 z z z z z z (wo hc214 z z z z z z (wv (.bool true) z z (x_pick_t hc214 z z) (wl_nil (tn ?_)))))))))
 refine wp_ift z ?_
 refine wp_seq (wrl (wv (Pt b204 0) z z z ?_))
 replace hst := at_octet_Reader_close (pv := Pt b204 0) (x := a0) hst ⟨z, f207⟩
 obtain ⟨t215, ht216, hm⟩ := bind_some hm
 refine wc call44 [Pt b204 0] z z z ?_
 refine (octet_Reader_spoil_ref hst.to1 ht216).mono ?_
 rintro _ w217 ⟨rfl, hst⟩
 refine ⟨_, z, ?_⟩
 replace hst := hst.of1
 refine wl_nil (tn (wp_seq (wrl (wv (.int .u64 (0:Int)) z z z (wl_nil (tn (wp_ret (then_r ?_))))))))
 obtain rfl := some_inj hm
 refine post_ret (vs := [Zu]) results30 (rvs_cons (rv_tmp z) rvs_nil) ?_
 exact ⟨z, hst.keep1⟩
}
 {
 replace hm := bif_f hc214 hm
 refine wv (Pt b204 0) ((wanted_eq z z z (cvb hc214)).trans z) z z (wv (Pt b204 0) ((wanted_eq z z z (cvb hc214)).trans z) z z (wv (Pt b204 0) ((wanted_eq z z z (cvb hc214)).trans z) z (x_field z underlying93 z sizeOf22 z) (wv (v205) ((wanted_eq z z z (cvb hc214)).trans z) z (x_load z isAgg22 (hst.bc0 z)) (wv (.int .i64 ((a0.p).length : Int)) ((wanted_eq z z z (cvb hc214)).trans z) z (x_len z underlying22 (ro_sliceV f207)) (wv (.int .i64 a1) ((wanted_eq z z z (cvb hc214)).trans z) z z (wv (.bool (decide (((a0.p).length : Int) < a1))) ((wanted_eq z z z (cvb hc214)).trans z) z z (wv (.bool (decide (((a0.p).length : Int) < a1))) z z (x_pick_f hc214 z z) (wl_nil (tn ?_)))))))))
 refine bsplit (decide (((a0.p).length : Int) < a1)) (fun hc220 => ?_) (fun hc220 => ?_)
 {
 replace hm := bif_t hc220 hm
 refine wp_ift (cvb hc220) ?_
 refine wp_seq (wrl (wv (Pt b204 0) z z z ?_))
 replace hst := at_octet_Reader_close (pv := Pt b204 0) (x := a0) hst ⟨z, f207⟩
 obtain ⟨t221, ht222, hm⟩ := bind_some hm
 refine wc call44 [Pt b204 0] z z z ?_
 refine (octet_Reader_spoil_ref hst.to1 ht222).mono ?_
 rintro _ w223 ⟨rfl, hst⟩
 refine ⟨_, z, ?_⟩
 replace hst := hst.of1
 refine wl_nil (tn (wp_seq (wrl (wv (.int .u64 (0:Int)) z z z (wl_nil (tn (wp_ret (then_r ?_))))))))
 obtain rfl := some_inj hm
 refine post_ret (vs := [Zu]) results30 (rvs_cons (rv_tmp z) rvs_nil) ?_
 exact ⟨z, hst.keep1⟩
}
 {
 replace hm := bif_f hc220 hm
 refine wp_iff (cvb hc220) ?_
 refine wp_skip (tn (wp_seq (wrl ?_)))
 refine wv (.int .u64 (0:Int)) z z z (wl_nil (tn ?_))
 obtain ⟨y277, hm, hx278⟩ := bind_some hm
 refine wp_cut (fun a w => ∃ (z274 : Int) (σ275 : Nat → Value), (octet_Reader_Num_j0 a0 a1) z274 = some r ∧ a = Fr 59 (upd (upd (upd σ275 0 (Pt b204 0)) 1 (.int .i64 a1)) 5 (.int .u64 z274)) ∧ St w0 w I [at_octet_Reader (Pt b204 0) a0] R) ?_ ?_
 {
 refine wp_seq (wrl (wv (.int .i64 a1) z z z (wv (.int .i64 (if (8:Int) < a1 then (8:Int) else a1)) z z (by kernel_rfl) (wv (.int .i64 (0:Int)) z z z (wl_nil (tn (wp_block ?_)))))))
 replace hst := at_octet_Reader_close (pv := Pt b204 0) (x := a0) hst ⟨z, f207⟩
 obtain ⟨n255, hm⟩ := loopO_some hm
 refine wp_loop_n (fun n a w => ∃ (z252 : Int) (z253 : Int) (σ254 : Nat → Value), loopN (octet_Reader_Num_l1 a1 a0) n (z252, z253) = some y277 ∧ a = Fr 59 (upd (upd (upd (upd (upd σ254 0 (Pt b204 0)) 1 (.int .i64 a1)) 5 (.int .u64 z253)) 31 (.int .i64 (if (8:Int) < a1 then (8:Int) else a1))) 32 (.int .i64 z252)) ∧ St w0 w I [at_octet_Reader (Pt b204 0) a0] R) n255 ⟨(0:Int), (0:Int), _, hm, (fu 0 (Pt b204 0) z (fu 1 (.int .i64 a1) z (fu 5 (.int .u64 (0:Int)) z (fu 31 (.int .i64 (if (8:Int) < a1 then (8:Int) else a1)) z (fu 32 (.int .i64 (0:Int)) z z))))), hst⟩ ?_
 rintro n261 _ w256 ⟨z252, z253, σ254, hm, rfl, hst⟩
 obtain ⟨n258, y259, rfl, hm, hx260⟩ := loopN_some hm
 dsimp only [octet_Reader_Num_l1] at hm
 refine wp_seq (wrl (wv (.bool (decide (z252 < (if (8:Int) < a1 then (8:Int) else a1)))) z z z (wl_nil (tn (wp_seq ?_)))))
 refine bsplit (decide (z252 < (if (8:Int) < a1 then (8:Int) else a1))) (fun hc262 => ?_) (fun hc262 => ?_)
 {
 replace hm := bif_t hc262 hm
 refine wp_ift (cvb hc262) ?_
 refine wp_skip (tn (wp_seq (wp_block (wp_seq (wrl ?_)))))
 refine wv (.int .i64 z252) z z z (wv (.int .i64 z252) z z z (wl_nil (tn (wrl (wv (.int .u64 z253) z z z (wv (Pt b204 0) z z z ?_))))))
 obtain ⟨b263, v264, ⟨e267, f266⟩, hst'⟩ := at_octet_Reader_open hst
 clear hst
 have e267 := ptr_inj e267
 subst e267
 have hst := hst'
 clear hst'
 refine wv (Pt b204 0) z z z (wv (Pt b204 0) z z (x_field z underlying93 z sizeOf22 z) (wv (v264) z z (x_load z isAgg22 (hst.bc0 z)) (wv (.int .i64 z252) z z z ?_)))
 obtain ⟨x268, hx269, hm⟩ := bind_some hm
 obtain ⟨h270, h271, hi272⟩ := geto_some hx269
 refine wv (.pointer (some (eAddr v264 (z252.toNat * 1 + 0)))) z z (x_index z z underlying22 sizeOf5 (ro_sliceV f266) h270 h271) (wv (.int .u8 x268) z z (x_load z isAgg5 (ro_load f266 hst hi272 (by rintro _ rfl; rfl))) (wv (.int .u64 (u64.wrap x268)) z z (by kernel_rfl) (wv (.int .i64 z252) z z z (wv (.int .i64 (i64.wrap ((8:Int) * z252))) z z z ?_))))
 obtain ⟨hg273, hm⟩ := gd_some hm
 refine wv (.int .u64 (iShl .u64 (u64.wrap x268) (i64.wrap ((8:Int) * z252)))) z z (x_shl (of_decide_eq_true hg273) z z) (wv (.int .u64 (bOr .u64 z253 (iShl .u64 (u64.wrap x268) (i64.wrap ((8:Int) * z252))))) z z z (wv (.int .u64 (bOr .u64 z253 (iShl .u64 (u64.wrap x268) (i64.wrap ((8:Int) * z252))))) z z z (wl_nil (blk_n (tn (wrl (wv (.int .i64 (i64.wrap (z252 + (1:Int)))) z z z (wv (.int .i64 (i64.wrap (z252 + (1:Int)))) z z z (wl_nil (tn ?_))))))))))
 replace hst := at_octet_Reader_close (pv := Pt b204 0) (x := a0) hst ⟨z, f266⟩
 replace hst := hst.keep1
 obtain rfl := some_inj hm
 exact ⟨_, Nat.lt_succ_self _, (i64.wrap (z252 + (1:Int))), (bOr .u64 z253 (iShl .u64 (u64.wrap x268) (i64.wrap ((8:Int) * z252)))), _, hx260, (fu 0 (Pt b204 0) z (fu 1 (.int .i64 a1) z (fu 5 (.int .u64 (bOr .u64 z253 (iShl .u64 (u64.wrap x268) (i64.wrap ((8:Int) * z252))))) z (fu 31 (.int .i64 (if (8:Int) < a1 then (8:Int) else a1)) z (fu 32 (.int .i64 (i64.wrap (z252 + (1:Int)))) z z))))), hst⟩
}
 {
 replace hm := bif_f hc262 hm
 refine wp_iff (cvb hc262) ?_
 refine wp_exit (then_x (then_x ?_))
 replace hm := inr_up hm hx260
 refine blk_x (tn ?_)
 replace hst := hst.keep1
 obtain rfl := some_inj hm
 exact ⟨z253, _, hx278, (fu 0 (Pt b204 0) z (fu 1 (.int .i64 a1) z (fu 5 (.int .u64 z253) z z))), hst⟩
}
}
 {
 clear hst
 rintro _ w279 ⟨z274, σ275, hm, rfl, hst⟩
 dsimp only [octet_Reader_Num_j0] at hm
 refine wp_seq (wrl (wv (Pt b204 0) z z z (wv (Pt b204 0) z z z ?_)))
 obtain ⟨b280, v281, ⟨e284, f283⟩, hst'⟩ := at_octet_Reader_open hst
 clear hst
 have e284 := ptr_inj e284
 subst e284
 have hst := hst'
 clear hst'
 refine wv (Pt b204 0) z z z (wv (Pt b204 0) z z (x_field z underlying93 z sizeOf22 z) (wv (v281) z z (x_load z isAgg22 (hst.bc0 z)) (wv (.int .i64 a1) z z z ?_)))
 obtain ⟨hg285, hm⟩ := gd_some hm
 obtain ⟨h286, h287, h288⟩ := fits_of hg285
 have f290 : Ro (tyInt .u8) I (slcV 1 v281 a1.toNat (((a0.p).length : Nat) : Int).toNat) (subs a0.p a1 (((a0.p).length : Nat) : Int)) := Ro.part f283 h287 h288 h286
 refine wv ((slcV 1 v281 a1.toNat (((a0.p).length : Nat) : Int).toNat)) z z (x_slice underlying22 sizeOf5 z (ro_sliceV f283) h286 h287 h288 .i64 .i64 (.inl z) (.inr ⟨z, z⟩)) (wv (Pt b204 0) z z z (wv (Pt b204 0) z z (x_field z underlying93 z sizeOf22 z) ?_))
 obtain ⟨w291, hr292, hst⟩ := hst.boxStore1 (P := prog) (t := 22) (cs' := [(slcV 1 v281 a1.toNat (((a0.p).length : Nat) : Int).toNat), .bool a0.bad]) 0 (slcV 1 v281 a1.toNat (((a0.p).length : Nat) : Int).toNat) (one_of_sliceV (ro_sliceV f290)) sizeOf22 z z
 refine wl_unit z z (x_unit hr292) ?_
 refine wl_nil (tn (wp_seq (wrl (wv (.int .u64 z274) z z z (wv (.int .u64 z274) z z z (wl_nil (tn (wp_ret ?_))))))))
 replace hst := at_octet_Reader_close (pv := Pt b204 0) (x := ({ p := (subs a0.p a1 (((a0.p).length : Nat) : Int)), bad := a0.bad } : octet_Reader)) hst ⟨z, f290⟩
 obtain rfl := some_inj hm
 refine post_ret (vs := [U6 z274]) results30 (rvs_cons (rv_tmp z) rvs_nil) ?_
 exact ⟨z, hst.keep1⟩
}
}
}
}
}

theorem octet_Reader_Count_ref {w0 w : World} {I : HL} {R : SP} {a0 : octet_Reader} {p0 : Value} {a1 : Int}  (hst : St w0 w I [at_octet_Reader p0 a0] R) {r : (Int × octet_Reader)} (hm : octet_Reader_Count a0 a1 = some r) :
  Calls prog 28 #[p0, I6 a1] w fun e w' => e = .returned (.int .i64 r.1) ∧ St w0 w' I [at_octet_Reader p0 r.2] R := by {
 unfold octet_Reader_Count at hm
 refine calls_start (args := [p0, I6 a1]) func28 z ntmps28 (Nat.le_of_ble_eq_true z) ?_
 refine wp_seq (wrl (wv (.int .i64 (0:Int)) z z z (wl_nil (tn (wp_seq (wrl (wv (p0) z z z ?_)))))))
 obtain ⟨t131, ht132, hm⟩ := bind_some hm
 refine wc call30 [p0, I6 (4:Int)] z z z ?_
 refine (octet_Reader_Num_ref hst.to1 ht132).mono ?_
 rintro _ w133 ⟨rfl, hst⟩
 refine ⟨_, z, ?_⟩
 replace hst := hst.of1
 refine wv (.int .u64 t131.1) z z z (wl_nil (tn (wp_seq (wp_seq (wrl (wv (.int .i64 a1) z z z (wv (.bool (decide (a1 < (0:Int)))) z z z (wv (.bool (decide (a1 < (0:Int)))) z z z ?_))))))))
 refine bsplit (decide (a1 < (0:Int))) (fun hc136 => ?_) (fun hc136 => ?_)
 {
 replace hm := bif_t hc136 hm
 refine wo hc136 z z z z z z (wo hc136 z z z z z z (wo hc136 z z z z z z (wo hc136 z z z z z z (wv (.bool true) z z (x_pick_t hc136 z z) (wl_nil (tn ?_))))))
 refine wp_ift z ?_
 refine wp_seq (wrl (wv (p0) z z z ?_))
 obtain ⟨t137, ht138, hm⟩ := bind_some hm
 refine wc call44 [p0] z z z ?_
 refine (octet_Reader_spoil_ref hst.to1 ht138).mono ?_
 rintro _ w139 ⟨rfl, hst⟩
 refine ⟨_, z, ?_⟩
 replace hst := hst.of1
 refine wl_nil (tn (wp_seq (wrl (wv (.int .i64 (0:Int)) z z z (wl_nil (tn (wp_ret (then_r ?_))))))))
 obtain rfl := some_inj hm
 refine post_ret (vs := [Zi]) results28 (rvs_cons (rv_tmp z) rvs_nil) ?_
 exact ⟨z, hst.keep1⟩
}
 {
 replace hm := bif_f hc136 hm
 refine wv (.int .u64 t131.1) ((wanted_eq z z z (cvb hc136)).trans z) z z (wv (.int .i64 a1) ((wanted_eq z z z (cvb hc136)).trans z) z z (wv (.int .u64 (u64.wrap a1)) ((wanted_eq z z z (cvb hc136)).trans z) z (by kernel_rfl) (wv (.bool (decide (t131.1 > (u64.wrap a1)))) ((wanted_eq z z z (cvb hc136)).trans z) z z (wv (.bool (decide (t131.1 > (u64.wrap a1)))) z z (x_pick_f hc136 z z) (wl_nil (tn ?_))))))
 refine bsplit (decide (t131.1 > (u64.wrap a1))) (fun hc142 => ?_) (fun hc142 => ?_)
 {
 replace hm := bif_t hc142 hm
 refine wp_ift (cvb hc142) ?_
 refine wp_seq (wrl (wv (p0) z z z ?_))
 obtain ⟨t143, ht144, hm⟩ := bind_some hm
 refine wc call44 [p0] z z z ?_
 refine (octet_Reader_spoil_ref hst.to1 ht144).mono ?_
 rintro _ w145 ⟨rfl, hst⟩
 refine ⟨_, z, ?_⟩
 replace hst := hst.of1
 refine wl_nil (tn (wp_seq (wrl (wv (.int .i64 (0:Int)) z z z (wl_nil (tn (wp_ret (then_r ?_))))))))
 obtain rfl := some_inj hm
 refine post_ret (vs := [Zi]) results28 (rvs_cons (rv_tmp z) rvs_nil) ?_
 exact ⟨z, hst.keep1⟩
}
 {
 replace hm := bif_f hc142 hm
 refine wp_iff (cvb hc142) ?_
 refine wp_skip (tn (wp_seq (wrl ?_)))
 refine wv (.int .u64 t131.1) z z z (wv (.int .i64 (i64.wrap t131.1)) z z (by kernel_rfl) (wv (.int .i64 (i64.wrap t131.1)) z z z (wl_nil (tn (wp_ret ?_)))))
 obtain rfl := some_inj hm
 refine post_ret (vs := [I6 (i64.wrap t131.1)]) results28 (rvs_cons (rv_tmp z) rvs_nil) ?_
 exact ⟨z, hst.keep1⟩
}
}
}

theorem octet_Reader_Flag_ref {w0 w : World} {I : HL} {R : SP} {a0 : octet_Reader} {p0 : Value}  (hst : St w0 w I [at_octet_Reader p0 a0] R) {r : (Bool × octet_Reader)} (hm : octet_Reader_Flag a0 = some r) :
  Calls prog 46 #[p0] w fun e w' => e = .returned (.bool r.1) ∧ St w0 w' I [at_octet_Reader p0 r.2] R := by {
 unfold octet_Reader_Flag at hm
 refine calls_start (args := [p0]) func46 z ntmps46 (Nat.le_of_ble_eq_true z) ?_
 refine wp_seq (wrl (wv (.bool false) z z z (wl_nil (tn (wp_seq (wrl (wv (p0) z z z ?_)))))))
 obtain ⟨t181, ht182, hm⟩ := bind_some hm
 refine wc call30 [p0, I6 (1:Int)] z z z ?_
 refine (octet_Reader_Num_ref hst.to1 ht182).mono ?_
 rintro _ w183 ⟨rfl, hst⟩
 refine ⟨_, z, ?_⟩
 replace hst := hst.of1
 refine wv (.int .u64 t181.1) z z z (wl_nil (tn (wp_seq (wp_seq (wrl (wv (.int .u64 t181.1) z z z (wv (.bool (decide (t181.1 > (1:Int)))) z z z (wl_nil (tn ?_)))))))))
 refine bsplit (decide (t181.1 > (1:Int))) (fun hc186 => ?_) (fun hc186 => ?_)
 {
 replace hm := bif_t hc186 hm
 refine wp_ift (cvb hc186) ?_
 refine wp_seq (wrl (wv (p0) z z z ?_))
 obtain ⟨t187, ht188, hm⟩ := bind_some hm
 refine wc call44 [p0] z z z ?_
 refine (octet_Reader_spoil_ref hst.to1 ht188).mono ?_
 rintro _ w189 ⟨rfl, hst⟩
 refine ⟨_, z, ?_⟩
 replace hst := hst.of1
 refine wl_nil (tn (wp_seq (wrl (wv (.bool false) z z z (wl_nil (tn (wp_ret (then_r ?_))))))))
 obtain rfl := some_inj hm
 refine post_ret (vs := [.bool false]) results46 (rvs_cons (rv_tmp z) rvs_nil) ?_
 exact ⟨z, hst.keep1⟩
}
 {
 replace hm := bif_f hc186 hm
 refine wp_iff (cvb hc186) ?_
 refine wp_skip (tn (wp_seq (wrl ?_)))
 refine wv (.int .u64 t181.1) z z z (wv (.bool (t181.1 == (1:Int))) z z z (wv (.bool (t181.1 == (1:Int))) z z z (wl_nil (tn (wp_ret ?_)))))
 obtain rfl := some_inj hm
 refine post_ret (vs := [.bool (t181.1 == (1:Int))]) results46 (rvs_cons (rv_tmp z) rvs_nil) ?_
 exact ⟨z, hst.keep1⟩
}
}

theorem octet_Reader_Bytes_ref {w0 w : World} {I : HL} {R : SP} {a0 : octet_Reader} {p0 : Value} {a1 : Int}  (hst : St w0 w I [at_octet_Reader p0 a0] R) {r : ((List Int) × octet_Reader)} (hm : octet_Reader_Bytes a0 a1 = some r) :
  Calls prog 47 #[p0, I6 a1] w fun e w' => ∃ (q0_0 : Value), e = .returned (q0_0) ∧ St w0 w' I [ownS (tyInt .u8) q0_0 r.1, at_octet_Reader p0 r.2] R := by {
 unfold octet_Reader_Bytes at hm
 refine calls_start (args := [p0, I6 a1]) func47 z ntmps47 (Nat.le_of_ble_eq_true z) ?_
 refine wp_seq (wrl (wv ((.slice none 0 0)) z z z (wl_nil (tn (wp_seq (wrl (wv (p0) z z z ?_)))))))
 obtain ⟨t228, ht229, hm⟩ := bind_some hm
 refine wc call30 [p0, I6 (4:Int)] z z z ?_
 refine (octet_Reader_Num_ref hst.to1 ht229).mono ?_
 rintro _ w230 ⟨rfl, hst⟩
 refine ⟨_, z, ?_⟩
 replace hst := hst.of1
 refine wv (.int .u64 t228.1) z z z (wl_nil (tn (wp_seq (wp_seq (wrl (wv (p0) z z z ?_))))))
 obtain ⟨b233, v234, ⟨rfl, f236⟩, hst'⟩ := at_octet_Reader_open hst
 clear hst
 have hst := hst'
 clear hst'
 refine wv (.bool false) z z (by kernel_rfl) (wv (.bool false) z z z (wv (Pt b233 0) ((wanted_eq z z z z).trans z) z z (wv (Pt b233 0) ((wanted_eq z z z z).trans z) z z (wv (Pt b233 1) ((wanted_eq z z z z).trans z) z (x_field z underlying93 z sizeOf4 z) (wv (.bool t228.2.bad) ((wanted_eq z z z z).trans z) z (x_load z isAgg4 (hst.bc0 z)) (wv (.bool t228.2.bad) z z (x_pick_f z z z) (wv (.bool t228.2.bad) z z z ?_)))))))
 refine bsplit t228.2.bad (fun hc237 => ?_) (fun hc237 => ?_)
 {
 replace hm := bif_t hc237 hm
 refine wo hc237 z z z z z z (wo hc237 z z z z z z (wv (.bool true) z z (x_pick_t hc237 z z) (wv (.bool true) z z z (wz z z z z z z (wz z z z z z z (wz z z z z z z (wz z z z z z z (wv (.bool true) z z (x_pick_t z z z) (wv (.bool true) z z z (wz z z z z z z (wz z z z z z z (wz z z z z z z ?_))))))))))))
 refine wz z z z z z z (wz z z z z z z (wz z z z z z z (wz z z z z z z (wz z z z z z z (wv (.bool true) z z (x_pick_t z z z) (wl_nil (tn ?_)))))))
 refine wp_ift z ?_
 refine wp_seq (wrl (wv (Pt b233 0) z z z ?_))
 replace hst := at_octet_Reader_close (pv := Pt b233 0) (x := t228.2) hst ⟨z, f236⟩
 obtain ⟨t238, ht239, hm⟩ := bind_some hm
 refine wc call44 [Pt b233 0] z z z ?_
 refine (octet_Reader_spoil_ref hst.to1 ht239).mono ?_
 rintro _ w240 ⟨rfl, hst⟩
 refine ⟨_, z, ?_⟩
 replace hst := hst.of1
 refine wl_nil (tn (wp_seq (wrl (wv ((.slice none 0 0)) z z z (wl_nil (tn (wp_ret (then_r ?_))))))))
 replace hst := hst.own_nil (tyInt .u8)
 obtain rfl := some_inj hm
 refine post_ret (vs := [Zs]) results47 (rvs_cons (rv_tmp z) rvs_nil) ?_
 replace hst := hst.pull1.pull1
 exact ⟨(.slice none 0 0), z, hst.keep2⟩
}
 {
 replace hm := bif_f hc237 hm
 refine wv (.int .i64 a1) ((wanted_eq z z z (cvb hc237)).trans z) z z (wv (.bool (decide (a1 < (0:Int)))) ((wanted_eq z z z (cvb hc237)).trans z) z z (wv (.bool (decide (a1 < (0:Int)))) z z (x_pick_f hc237 z z) (wv (.bool (decide (a1 < (0:Int)))) z z z ?_)))
 refine bsplit (decide (a1 < (0:Int))) (fun hc244 => ?_) (fun hc244 => ?_)
 {
 replace hm := bif_t hc244 hm
 refine wo hc244 z z z z z z (wo hc244 z z z z z z (wo hc244 z z z z z z (wo hc244 z z z z z z (wv (.bool true) z z (x_pick_t hc244 z z) (wv (.bool true) z z z (wz z z z z z z (wz z z z z z z (wz z z z z z z (wz z z z z z z (wz z z z z z z (wz z z z z z z (wz z z z z z z ?_))))))))))))
 refine wz z z z z z z (wv (.bool true) z z (x_pick_t z z z) (wl_nil (tn ?_)))
 refine wp_ift z ?_
 refine wp_seq (wrl (wv (Pt b233 0) z z z ?_))
 replace hst := at_octet_Reader_close (pv := Pt b233 0) (x := t228.2) hst ⟨z, f236⟩
 obtain ⟨t245, ht246, hm⟩ := bind_some hm
 refine wc call44 [Pt b233 0] z z z ?_
 refine (octet_Reader_spoil_ref hst.to1 ht246).mono ?_
 rintro _ w247 ⟨rfl, hst⟩
 refine ⟨_, z, ?_⟩
 replace hst := hst.of1
 refine wl_nil (tn (wp_seq (wrl (wv ((.slice none 0 0)) z z z (wl_nil (tn (wp_ret (then_r ?_))))))))
 replace hst := hst.own_nil (tyInt .u8)
 obtain rfl := some_inj hm
 refine post_ret (vs := [Zs]) results47 (rvs_cons (rv_tmp z) rvs_nil) ?_
 replace hst := hst.pull1.pull1
 exact ⟨(.slice none 0 0), z, hst.keep2⟩
}
 {
 replace hm := bif_f hc244 hm
 refine wv (.int .u64 t228.1) ((wanted_eq z z z (cvb hc244)).trans z) z z (wv (.int .i64 a1) ((wanted_eq z z z (cvb hc244)).trans z) z z (wv (.int .u64 (u64.wrap a1)) ((wanted_eq z z z (cvb hc244)).trans z) z (by kernel_rfl) (wv (.bool (decide (t228.1 > (u64.wrap a1)))) ((wanted_eq z z z (cvb hc244)).trans z) z z (wv (.bool (decide (t228.1 > (u64.wrap a1)))) z z (x_pick_f hc244 z z) (wv (.bool (decide (t228.1 > (u64.wrap a1)))) z z z ?_)))))
 refine bsplit (decide (t228.1 > (u64.wrap a1))) (fun hc251 => ?_) (fun hc251 => ?_)
 {
 replace hm := bif_t hc251 hm
 refine wo hc251 z z z z z z (wo hc251 z z z z z z (wo hc251 z z z z z z (wo hc251 z z z z z z (wo hc251 z z z z z z (wo hc251 z z z z z z (wo hc251 z z z z z z (wo hc251 z z z z z z (wv (.bool true) z z (x_pick_t hc251 z z) (wl_nil (tn ?_))))))))))
 refine wp_ift z ?_
 refine wp_seq (wrl (wv (Pt b233 0) z z z ?_))
 replace hst := at_octet_Reader_close (pv := Pt b233 0) (x := t228.2) hst ⟨z, f236⟩
 obtain ⟨t252, ht253, hm⟩ := bind_some hm
 refine wc call44 [Pt b233 0] z z z ?_
 refine (octet_Reader_spoil_ref hst.to1 ht253).mono ?_
 rintro _ w254 ⟨rfl, hst⟩
 refine ⟨_, z, ?_⟩
 replace hst := hst.of1
 refine wl_nil (tn (wp_seq (wrl (wv ((.slice none 0 0)) z z z (wl_nil (tn (wp_ret (then_r ?_))))))))
 replace hst := hst.own_nil (tyInt .u8)
 obtain rfl := some_inj hm
 refine post_ret (vs := [Zs]) results47 (rvs_cons (rv_tmp z) rvs_nil) ?_
 replace hst := hst.pull1.pull1
 exact ⟨(.slice none 0 0), z, hst.keep2⟩
}
 {
 replace hm := bif_f hc251 hm
 refine wv (.int .u64 t228.1) ((wanted_eq z z z (cvb hc251)).trans z) z z (wv (Pt b233 0) ((wanted_eq z z z (cvb hc251)).trans z) z z (wv (Pt b233 0) ((wanted_eq z z z (cvb hc251)).trans z) z z (wv (Pt b233 0) ((wanted_eq z z z (cvb hc251)).trans z) z (x_field z underlying93 z sizeOf22 z) (wv (v234) ((wanted_eq z z z (cvb hc251)).trans z) z (x_load z isAgg22 (hst.bc0 z)) (wv (.int .i64 ((t228.2.p).length : Int)) ((wanted_eq z z z (cvb hc251)).trans z) z (x_len z underlying22 (ro_sliceV f236)) (wv (.int .u64 (u64.wrap ((t228.2.p).length : Int))) ((wanted_eq z z z (cvb hc251)).trans z) z (by kernel_rfl) (wv (.bool (decide (t228.1 > (u64.wrap ((t228.2.p).length : Int))))) ((wanted_eq z z z (cvb hc251)).trans z) z z (wv (.bool (decide (t228.1 > (u64.wrap ((t228.2.p).length : Int))))) z z (x_pick_f hc251 z z) (wl_nil (tn ?_))))))))))
 refine bsplit (decide (t228.1 > (u64.wrap ((t228.2.p).length : Int)))) (fun hc258 => ?_) (fun hc258 => ?_)
 {
 replace hm := bif_t hc258 hm
 refine wp_ift (cvb hc258) ?_
 refine wp_seq (wrl (wv (Pt b233 0) z z z ?_))
 replace hst := at_octet_Reader_close (pv := Pt b233 0) (x := t228.2) hst ⟨z, f236⟩
 obtain ⟨t259, ht260, hm⟩ := bind_some hm
 refine wc call44 [Pt b233 0] z z z ?_
 refine (octet_Reader_spoil_ref hst.to1 ht260).mono ?_
 rintro _ w261 ⟨rfl, hst⟩
 refine ⟨_, z, ?_⟩
 replace hst := hst.of1
 refine wl_nil (tn (wp_seq (wrl (wv ((.slice none 0 0)) z z z (wl_nil (tn (wp_ret (then_r ?_))))))))
 replace hst := hst.own_nil (tyInt .u8)
 obtain rfl := some_inj hm
 refine post_ret (vs := [Zs]) results47 (rvs_cons (rv_tmp z) rvs_nil) ?_
 replace hst := hst.pull1.pull1
 exact ⟨(.slice none 0 0), z, hst.keep2⟩
}
 {
 replace hm := bif_f hc258 hm
 refine wp_iff (cvb hc258) ?_
 refine wp_skip (tn (wp_seq (wrl ?_)))
 refine wv (Pt b233 0) z z z (wv (Pt b233 0) z z z (wv (Pt b233 0) z z (x_field z underlying93 z sizeOf22 z) (wv (v234) z z (x_load z isAgg22 (hst.bc0 z)) (wv (.int .u64 t228.1) z z z ?_))))
 obtain ⟨hg265, hm⟩ := gd_some hm
 obtain ⟨h266, h267, h268⟩ := fits_of hg265
 have f270 : Ro (tyInt .u8) I (slcV 1 v234 (0:Int).toNat t228.1.toNat) (subs t228.2.p (0:Int) t228.1) := Ro.part f236 h267 h268 h266
 refine wv ((slcV 1 v234 (0:Int).toNat t228.1.toNat)) z z (x_slice underlying22 sizeOf5 z (ro_sliceV f236) h266 h267 h268 .i64 .u64 (.inr ⟨z, z⟩) (.inl z)) ?_
 replace hst := hst.own_nil (tyInt .u8)
 obtain ⟨hg272, hm⟩ := gd_some hm
 obtain ⟨v273, w274, hr275, hst⟩ := run_append elem_22 underlying22 hst (Src.of_ro hst f270) (room_of hg272 z) 22
 replace hst := St.nil_app hst
 refine wl_run (v := v273) (w' := w274) z z (x_append z z hr275) ?_
 refine wv (v273) z z z (wl_nil (tn (wp_seq (wrl (wv (Pt b233 0) z z z (wv (Pt b233 0) z z z (wv (Pt b233 0) z z z (wv (Pt b233 0) z z (x_field z underlying93 z sizeOf22 z) (wv (v234) z z (x_load z isAgg22 (hst.bc1 z)) (wv (.int .u64 t228.1) z z z ?_))))))))))
 obtain ⟨hg276, hm⟩ := gd_some hm
 obtain ⟨h277, h278, h279⟩ := fits_of hg276
 have f281 : Ro (tyInt .u8) I (slcV 1 v234 t228.1.toNat (((t228.2.p).length : Nat) : Int).toNat) (subs t228.2.p t228.1 (((t228.2.p).length : Nat) : Int)) := Ro.part f236 h278 h279 h277
 refine wv ((slcV 1 v234 t228.1.toNat (((t228.2.p).length : Nat) : Int).toNat)) z z (x_slice underlying22 sizeOf5 z (ro_sliceV f236) h277 h278 h279 .u64 .i64 (.inl z) (.inr ⟨z, z⟩)) (wv (Pt b233 0) z z z (wv (Pt b233 0) z z (x_field z underlying93 z sizeOf22 z) ?_))
 replace hst := hst.pull1
 obtain ⟨w282, hr283, hst⟩ := hst.boxStore1 (P := prog) (t := 22) (cs' := [(slcV 1 v234 t228.1.toNat (((t228.2.p).length : Nat) : Int).toNat), .bool t228.2.bad]) 0 (slcV 1 v234 t228.1.toNat (((t228.2.p).length : Nat) : Int).toNat) (one_of_sliceV (ro_sliceV f281)) sizeOf22 z z
 refine wl_unit z z (x_unit hr283) ?_
 refine wl_nil (tn (wp_seq (wrl (wv (v273) z z z (wv (v273) z z z (wl_nil (tn (wp_ret ?_))))))))
 replace hst := at_octet_Reader_close (pv := Pt b233 0) (x := ({ p := (subs t228.2.p t228.1 (((t228.2.p).length : Nat) : Int)), bad := t228.2.bad } : octet_Reader)) hst ⟨z, f281⟩
 obtain rfl := some_inj hm
 refine post_ret (vs := [v273]) results47 (rvs_cons (rv_tmp z) rvs_nil) ?_
 replace hst := hst.pull1
 exact ⟨v273, z, hst.keep2⟩
}
}
}
}
}

theorem number_Back_ref {w0 w : World} {I : HL} {R : SP} {a0 : Int}  (hst : St w0 w I [] R) {r : (Nat)} (hm : number_Back a0 = some r) :
  Calls prog 48 #[U6 a0] w fun e w' => e = .returned (.float .f64 r) ∧ St w0 w' I [] R := by {
 unfold number_Back at hm
 refine calls_start (args := [U6 a0]) func48 z ntmps48 (Nat.le_of_ble_eq_true z) ?_
 refine wp_seq (wrl (wv (.float .f64 (0:Nat)) z z z (wl_nil (tn (wp_seq (wp_seq (wrl (wv (.int .u64 a0) z z z (wv (.int .u64 (iShr .u64 a0 (63:Int))) z z (x_shr (by decide) z z) (wv (.bool ((iShr .u64 a0 (63:Int)) == (1:Int))) z z z (wl_nil (tn ?_))))))))))))
 refine bsplit ((iShr .u64 a0 (63:Int)) == (1:Int)) (fun hc332 => ?_) (fun hc332 => ?_)
 {
 replace hm := bif_t hc332 hm
 refine wp_ift (cvb hc332) ?_
 refine wp_seq (wrl (wv (.int .u64 a0) z z z (wv (.int .u64 (bAndNot .u64 a0 (9223372036854775808:Int))) z z z (wv (.float .f64 (Int.toNat (bAndNot .u64 a0 (9223372036854775808:Int)))) z z (by kernel_rfl) (wv (.float .f64 (Int.toNat (bAndNot .u64 a0 (9223372036854775808:Int)))) z z z (wl_nil (tn (wp_ret (then_r ?_)))))))))
 obtain rfl := some_inj hm
 refine post_ret (vs := [F6 (Int.toNat (bAndNot .u64 a0 (9223372036854775808:Int)))]) results48 (rvs_cons (rv_tmp z) rvs_nil) ?_
 exact ⟨z, hst.keep0⟩
}
 {
 replace hm := bif_f hc332 hm
 refine wp_iff (cvb hc332) ?_
 refine wp_skip (tn (wp_seq (wrl ?_)))
 refine wv (.int .u64 a0) z z z (wv (.int .u64 (bXor .u64 ((18446744073709551615):Int) a0)) z z (by kernel_rfl) (wv (.float .f64 (Int.toNat (bXor .u64 ((18446744073709551615):Int) a0))) z z (by kernel_rfl) (wv (.float .f64 (Int.toNat (bXor .u64 ((18446744073709551615):Int) a0))) z z z (wl_nil (tn (wp_ret ?_))))))
 obtain rfl := some_inj hm
 refine post_ret (vs := [F6 (Int.toNat (bXor .u64 ((18446744073709551615):Int) a0))]) results48 (rvs_cons (rv_tmp z) rvs_nil) ?_
 exact ⟨z, hst.keep0⟩
}
}

theorem command_ReadReply_ref {w0 w : World} {I : HL} {R : SP} {a0 : octet_Reader} {p0 : Value}  (hst : St w0 w I [at_octet_Reader p0 a0] R) {r : (api_Reply × octet_Reader)} (hm : command_ReadReply a0 = some r) :
  Calls prog 31 #[p0] w fun e w' => ∃ (I' : HL) (q0_0 : Value) (q0_1 : Value), e = .returned (.agg #[I6 r.1.E, U6 r.1.Epoch, U6 r.1.Index, q0_0, q0_1]) ∧ I.le I' ∧ St w0 w' I' [ownS ty_api_Got q0_0 r.1.Gots, ownS (tySl ty_api_Pair) q0_1 r.1.Scans, at_octet_Reader p0 r.2] R := by {
 unfold command_ReadReply at hm
 refine calls_start (args := [p0]) func31 z ntmps31 (Nat.le_of_ble_eq_true z) ?_
 have hI0 := HL.le.refl I
 refine wp_seq (wrl ?_)
 obtain ⟨b1062, w1063, ew1064, eb1065, hst⟩ := hst.box [Zi, Zu, Zu, Zs, Zs] 36
 refine wl_run (v := Pt b1062 0) (w' := w1063) z z (x_al (by kernel_rfl) ew1064 eb1065) ?_
 refine wl_nil (tn (wp_seq (wrl (wv (p0) z z z ?_))))
 replace hst := hst.pull1
 obtain ⟨t1067, ht1068, hm⟩ := bind_some hm
 refine wc call30 [p0, I6 (1:Int)] z z z ?_
 refine (octet_Reader_Num_ref hst.to1 ht1068).mono ?_
 rintro _ w1069 ⟨rfl, hst⟩
 refine ⟨_, z, ?_⟩
 replace hst := hst.of1
 refine wv (.int .i64 (i64.wrap t1067.1)) z z (by kernel_rfl) (wv (p0) z z z ?_)
 obtain ⟨t1072, ht1073, hm⟩ := bind_some hm
 refine wc call30 [p0, I6 (8:Int)] z z z ?_
 refine (octet_Reader_Num_ref hst.to1 ht1073).mono ?_
 rintro _ w1074 ⟨rfl, hst⟩
 refine ⟨_, z, ?_⟩
 replace hst := hst.of1
 refine wv (p0) z z z ?_
 obtain ⟨t1077, ht1078, hm⟩ := bind_some hm
 refine wc call30 [p0, I6 (8:Int)] z z z ?_
 refine (octet_Reader_Num_ref hst.to1 ht1078).mono ?_
 rintro _ w1079 ⟨rfl, hst⟩
 refine ⟨_, z, ?_⟩
 replace hst := hst.of1
 refine wv (.agg #[I6 (i64.wrap t1067.1), U6 t1072.1, U6 t1077.1, Zs, Zs]) z z (by kernel_rfl) ?_
 obtain ⟨b1086, w1087, ew1088, eb1089, hst⟩ := hst.box [Zi, Zu, Zu, Zs, Zs] 36
 refine wl_run (v := Pt b1086 0) (w' := w1087) z z (x_al (by kernel_rfl) ew1088 eb1089) ?_
 obtain ⟨w1091, hr1092, hst⟩ := hst.bx [I6 (i64.wrap t1067.1), U6 t1072.1, U6 t1077.1, Zs, Zs] sizeOf36 z (oC z (oC z (oC z (oC z (oC z oN))))) (by kernel_rfl)
 refine wl_unit z z (x_unit hr1092) ?_
 refine wl_nil (tn ?_)
 obtain ⟨y1240, hm, hx1241⟩ := bind_some hm
 refine wp_cut (fun a w => ∃ (I1237 : HL) (z1233 : octet_Reader) (z1236 : (List api_Got)) (v1235 : Value) (σ1238 : Nat → Value), (command_ReadReply_j0 t1067 t1072 t1077) (z1233, z1236) = some r ∧ a = Fr 54 (upd (upd (upd σ1238 0 (p0)) 2 (Pt b1062 0)) 3 (Pt b1086 0)) ∧ I.le I1237 ∧ St w0 w I1237 [at_octet_Reader p0 z1233, cells b1062 [Zi, Zu, Zu, Zs, Zs], cells b1086 [I6 (i64.wrap t1067.1), U6 t1072.1, U6 t1077.1, v1235, Zs], ownS ty_api_Got v1235 z1236] R) ?_ ?_
 {
 have hL1242 := HL.le.refl I
 refine wp_seq (wrl (wv (p0) z z z ?_))
 replace hst := hst.pull1
 obtain ⟨t1093, ht1094, hm⟩ := bind_some hm
 refine wc call28 [p0, I6 (32:Int)] z z z ?_
 refine (octet_Reader_Count_ref hst.to1 ht1094).mono ?_
 rintro _ w1095 ⟨rfl, hst⟩
 refine ⟨_, z, ?_⟩
 replace hst := hst.of1
 refine wv (.int .i64 (0:Int)) z z z (wl_nil (tn (wp_block ?_)))
 replace hst := hst.own_nil ty_api_Got
 obtain ⟨n1197, hm⟩ := loopO_some hm
 refine wp_loop_n (fun n a w => ∃ (I1195 : HL) (z1190 : (List api_Got)) (z1193 : octet_Reader) (z1194 : Int) (v1191 : Value) (σ1196 : Nat → Value), loopN (command_ReadReply_l1 t1093) n (z1190, z1193, z1194) = some y1240 ∧ a = Fr 54 (upd (upd (upd (upd (upd σ1196 0 (p0)) 2 (Pt b1062 0)) 3 (Pt b1086 0)) 14 (.int .i64 t1093.1)) 15 (.int .i64 z1194)) ∧ I.le I1195 ∧ St w0 w I1195 [ownS ty_api_Got v1191 z1190, at_octet_Reader p0 z1193, cells b1086 [I6 (i64.wrap t1067.1), U6 t1072.1, U6 t1077.1, v1191, Zs], cells b1062 [Zi, Zu, Zu, Zs, Zs]] R) n1197 ⟨_, [], t1093.2, (0:Int), Zs, _, hm, (fu 0 p0 z (fu 2 (Pt b1062 0) z (fu 3 (Pt b1086 0) z (fu 14 (.int .i64 t1093.1) z (fu 15 (.int .i64 (0:Int)) z z))))), (HL.le.refl _), hst⟩ ?_
 rintro n1203 _ w1198 ⟨I1195, z1190, z1193, z1194, v1191, σ1196, hm, rfl, hL1199, hst⟩
 obtain ⟨n1200, y1201, rfl, hm, hx1202⟩ := loopN_some hm
 dsimp only [command_ReadReply_l1] at hm
 replace hI0 := hI0.trans hL1199
 replace hL1242 := hL1242.trans hL1199
 refine wp_seq (wrl (wv (.bool (decide (z1194 < t1093.1))) z z z (wl_nil (tn (wp_seq ?_)))))
 refine bsplit (decide (z1194 < t1093.1)) (fun hc1204 => ?_) (fun hc1204 => ?_)
 {
 replace hm := bif_t hc1204 hm
 refine wp_ift (cvb hc1204) ?_
 refine wp_skip (tn (wp_seq (wp_block ?_)))
 refine wp_region_St hst 11 [0, 1, 2, 3, 4, 5, 6, 7, 8, 9, 10] [0, 1, 0, 4, 0, 28, 60, 124, 255, 511, 1023] [] z (by kernel_rfl) (by kernel_rfl) Try.mixed (by kernel_rfl) ?_
 refine wsr (Pt b1086 3) 0 z z z (by kernel_rfl) (fun w hst => x_field z underlying36 z sizeOf33 z) (wsr (v1191) 1 z z z (by kernel_rfl) (fun w hst => x_load z isAgg33 (hst.bc2 z)) (wsr (p0) 2 z z z (by kernel_rfl) (fun w hst => z) (wsr (p0) 4 z z z (by kernel_rfl) (fun w hst => z) ?_)))
 refine ws_e1 3 (by kernel_rfl) ?_
 refine nxe [5, 6, 7, 8, 9, 10] (by kernel_rfl) z z ?_
 clear hst
 intro w hst
 replace hst := hst.pull1
 obtain ⟨t1205, ht1206, hm⟩ := bind_some hm
 refine wec call46 [p0] z z ?_
 refine (octet_Reader_Flag_ref hst.to1 ht1206).mono ?_
 rintro _ w1207 ⟨rfl, hst⟩
 refine ⟨_, z, ?_⟩
 replace hst := hst.of1
 refine ws_next (pend' := [(4, p0), (1, v1191), (0, Pt b1086 3)]) hst (by kernel_rfl) (pkr z z (fun w hst => z) (pkr z z (fun w hst => x_load z isAgg33 (hst.bc2 z)) (pkr z z (fun w hst => x_field z underlying36 z sizeOf33 z) pk_nil))) ?_
 refine ws_e1 5 (by kernel_rfl) ?_
 refine nxe [6, 7, 8, 9, 10] (by kernel_rfl) z z ?_
 clear hst
 intro w hst
 obtain ⟨t1210, ht1211, hm⟩ := bind_some hm
 refine wec call47 [p0, I6 (256:Int)] z z ?_
 refine (octet_Reader_Bytes_ref hst.to1 ht1211).mono ?_
 rintro _ w1212 ⟨v1215, rfl, hst⟩
 refine ⟨_, z, ?_⟩
 replace hst := hst.of2
 refine ws_next (pend' := [(1, v1191), (0, Pt b1086 3)]) hst (by kernel_rfl) (pkr z z (fun w hst => x_load z isAgg33 (hst.bc3 z)) (pkr z z (fun w hst => x_field z underlying36 z sizeOf33 z) pk_nil)) ?_
 refine wsr (.agg #[.bool t1205.1, v1215]) 6 rfl rfl rfl (by kernel_rfl) (fun w hst => by obtain ⟨_, _, hv_, _⟩ := hst.sv0; rw [hv_]; kernel_rfl) ?_
 refine ws_e1 7 (by kernel_rfl) ?_
 refine nxe [8, 9, 10] (by kernel_rfl) z z ?_
 clear hst
 intro w hst
 obtain ⟨I1219, hI1220, f1221, hst⟩ := hst.own_fix
 replace hI0 := hI0.trans hI1220
 replace hL1242 := hL1242.trans hI1220
 replace hL1199 := hL1199.trans hI1220
 obtain ⟨b1222, w1223, ew1224, eb1225, hst⟩ := hst.lits (E := ty_api_Got) (xs := [({ Has := t1205.1, Val := t1210.1 } : api_Got)]) [[.bool t1205.1, v1215]] 59 1 z (Reps.cons ⟨_, z, f1221, one_of_sliceV (ro_sliceV f1221)⟩ Reps.nil)
 refine we_run (v := (.slice (some ⟨b1222, 0, none⟩) 1 1)) (w' := w1223) z (x_als (by kernel_rfl) ew1224 eb1225) ?_
 refine ws_next (pend' := [(1, v1191), (0, Pt b1086 3)]) hst (by kernel_rfl) (pkr z z (fun w hst => x_load z isAgg33 (hst.bc3 z)) (pkr z z (fun w hst => x_field z underlying36 z sizeOf33 z) pk_nil)) ?_
 refine ws_e1 8 (by kernel_rfl) ?_
 refine nxe [9, 10] (by kernel_rfl) z z ?_
 clear hst
 intro w hst
 obtain ⟨hg1227, hm⟩ := gd_some hm
 replace hst := hst.pull2
 obtain ⟨v1228, w1229, hr1230, hst⟩ := run_append elem_33 underlying33 hst hst.src1 (room_of hg1227 z) 33
 refine we_run (v := v1228) (w' := w1229) z (x_append z z hr1230) ?_
 refine ws_next (pend' := []) hst (by kernel_rfl) pk_nil ?_
 refine wsr (Pt b1086 3) 9 z z z (by kernel_rfl) (fun w hst => x_field z underlying36 z sizeOf33 z) ?_
 refine ws_e1 10 (by kernel_rfl) ?_
 refine nxe [] (by kernel_rfl) z z ?_
 clear hst
 intro w hst
 replace hst := hst.pull3
 obtain ⟨w1231, hr1232, hst⟩ := hst.boxStore1 (P := prog) (t := 33) (cs' := [I6 (i64.wrap t1067.1), U6 t1072.1, U6 t1077.1, v1228, Zs]) 3 v1228 (one_of_sliceV hst.sv1) sizeOf33 z z
 refine we_unit z (x_unit hr1232) ?_
 refine ws_next (pend' := []) hst (by kernel_rfl) pk_nil ?_
 refine ws_nil ?_
 intro w hst
 refine blk_n (tn (wrl ?_))
 refine wv (.int .i64 (i64.wrap (z1194 + (1:Int)))) z z z (wv (.int .i64 (i64.wrap (z1194 + (1:Int)))) z z z (wl_nil (tn ?_)))
 replace hst := hst.pull4.pull1.pull4.pull3.keep4
 obtain rfl := some_inj hm
 exact ⟨_, Nat.lt_succ_self _, _, (z1190 ++ ([({ Has := t1205.1, Val := t1210.1 } : api_Got)])), t1210.2, (i64.wrap (z1194 + (1:Int))), v1228, _, hx1202, (fu 0 p0 z (fu 2 (Pt b1062 0) z (fu 3 (Pt b1086 0) z (fu 14 (.int .i64 t1093.1) z (fu 15 (.int .i64 (i64.wrap (z1194 + (1:Int)))) z z))))), hL1199, hst⟩
}
 {
 replace hm := bif_f hc1204 hm
 refine wp_iff (cvb hc1204) ?_
 refine wp_exit (then_x (then_x ?_))
 replace hm := inr_up hm hx1202
 refine blk_x (tn ?_)
 replace hst := hst.pull2.pull3.pull3.keep4
 obtain rfl := some_inj hm
 exact ⟨_, z1193, z1190, v1191, _, hx1241, (fu 0 p0 z (fu 2 (Pt b1062 0) z (fu 3 (Pt b1086 0) z z))), hL1242, hst⟩
}
}
 {
 clear hst
 rintro _ w1243 ⟨I1237, z1233, z1236, v1235, σ1238, hm, rfl, hL1239, hst⟩
 dsimp only [command_ReadReply_j0] at hm
 replace hI0 := hI0.trans hL1239
 refine wp_seq (wp_seq (wrl (wv (p0) z z z ?_)))
 obtain ⟨t1244, ht1245, hm⟩ := bind_some hm
 refine wc call28 [p0, I6 (32:Int)] z z z ?_
 refine (octet_Reader_Count_ref hst.to1 ht1245).mono ?_
 rintro _ w1246 ⟨rfl, hst⟩
 refine ⟨_, z, ?_⟩
 replace hst := hst.of1
 refine wv (.int .i64 (0:Int)) z z z (wl_nil (tn (wp_block ?_)))
 replace hst := hst.own_nil (tySl ty_api_Pair)
 obtain ⟨n1801, hm⟩ := loopO_some hm
 refine wp_loop_n (fun n a w => ∃ (I1799 : HL) (z1794 : (List (List api_Pair))) (z1797 : octet_Reader) (z1798 : Int) (v1795 : Value) (σ1800 : Nat → Value), loopN (command_ReadReply_l2 t1244 t1067 t1072 t1077 z1236) n (z1794, z1797, z1798) = some r ∧ a = Fr 54 (upd (upd (upd (upd (upd σ1800 0 (p0)) 2 (Pt b1062 0)) 3 (Pt b1086 0)) 29 (.int .i64 t1244.1)) 30 (.int .i64 z1798)) ∧ I1237.le I1799 ∧ St w0 w I1799 [ownS (tySl ty_api_Pair) v1795 z1794, at_octet_Reader p0 z1797, cells b1062 [Zi, Zu, Zu, Zs, Zs], cells b1086 [I6 (i64.wrap t1067.1), U6 t1072.1, U6 t1077.1, v1235, v1795], ownS ty_api_Got v1235 z1236] R) n1801 ⟨_, [], t1244.2, (0:Int), Zs, _, hm, (fu 0 p0 z (fu 2 (Pt b1062 0) z (fu 3 (Pt b1086 0) z (fu 29 (.int .i64 t1244.1) z (fu 30 (.int .i64 (0:Int)) z z))))), (HL.le.refl _), hst⟩ ?_
 rintro n1807 _ w1802 ⟨I1799, z1794, z1797, z1798, v1795, σ1800, hm, rfl, hL1803, hst⟩
 obtain ⟨n1804, y1805, rfl, hm, hx1806⟩ := loopN_some hm
 dsimp only [command_ReadReply_l2] at hm
 replace hI0 := hI0.trans hL1803
 refine wp_seq (wrl (wv (.bool (decide (z1798 < t1244.1))) z z z (wl_nil (tn (wp_seq ?_)))))
 refine bsplit (decide (z1798 < t1244.1)) (fun hc1808 => ?_) (fun hc1808 => ?_)
 {
 replace hm := bif_t hc1808 hm
 refine wp_ift (cvb hc1808) ?_
 refine wp_skip (tn (wp_seq (wp_block (wp_seq (wrl ?_)))))
 refine wv ((.slice none 0 0)) z z z (wl_nil (tn ?_))
 obtain ⟨y1969, hm, hx1970⟩ := bind_some hm
 refine wp_cut (fun a w => ∃ (I1966 : HL) (z1962 : octet_Reader) (z1965 : (List api_Pair)) (v1964 : Value) (σ1967 : Nat → Value), (command_ReadReply_j3 z1794 z1798) (z1962, z1965) = some y1805 ∧ a = Fr 54 (upd (upd (upd (upd (upd (upd σ1967 0 (p0)) 2 (Pt b1062 0)) 3 (Pt b1086 0)) 4 (v1964)) 29 (.int .i64 t1244.1)) 30 (.int .i64 z1798)) ∧ I1799.le I1966 ∧ St w0 w I1966 [at_octet_Reader p0 z1962, cells b1062 [Zi, Zu, Zu, Zs, Zs], cells b1086 [I6 (i64.wrap t1067.1), U6 t1072.1, U6 t1077.1, v1235, v1795], ownS ty_api_Got v1235 z1236, ownS (tySl ty_api_Pair) v1795 z1794, ownS ty_api_Pair v1964 z1965] R) ?_ ?_
 {
 have hL1971 := HL.le.refl I1799
 refine wp_seq (wrl (wv (p0) z z z ?_))
 replace hst := hst.pull1
 obtain ⟨t1810, ht1811, hm⟩ := bind_some hm
 refine wc call28 [p0, I6 (64:Int)] z z z ?_
 refine (octet_Reader_Count_ref hst.to1 ht1811).mono ?_
 rintro _ w1812 ⟨rfl, hst⟩
 refine ⟨_, z, ?_⟩
 replace hst := hst.of1
 refine wv (.int .i64 (0:Int)) z z z (wl_nil (tn (wp_block ?_)))
 replace hst := hst.own_nil ty_api_Pair
 obtain ⟨n1923, hm⟩ := loopO_some hm
 refine wp_loop_n (fun n a w => ∃ (I1921 : HL) (z1916 : octet_Reader) (z1917 : Int) (z1918 : (List api_Pair)) (v1919 : Value) (σ1922 : Nat → Value), loopN (command_ReadReply_l4 t1810) n (z1916, z1917, z1918) = some y1969 ∧ a = Fr 54 (upd (upd (upd (upd (upd (upd (upd (upd σ1922 0 (p0)) 2 (Pt b1062 0)) 3 (Pt b1086 0)) 4 (v1919)) 29 (.int .i64 t1244.1)) 30 (.int .i64 z1798)) 33 (.int .i64 t1810.1)) 34 (.int .i64 z1917)) ∧ I1799.le I1921 ∧ St w0 w I1921 [ownS ty_api_Pair v1919 z1918, at_octet_Reader p0 z1916, ownS (tySl ty_api_Pair) v1795 z1794, cells b1062 [Zi, Zu, Zu, Zs, Zs], cells b1086 [I6 (i64.wrap t1067.1), U6 t1072.1, U6 t1077.1, v1235, v1795], ownS ty_api_Got v1235 z1236] R) n1923 ⟨_, t1810.2, (0:Int), [], Zs, _, hm, (fu 0 p0 z (fu 2 (Pt b1062 0) z (fu 3 (Pt b1086 0) z (fu 4 (.slice none 0 0) z (fu 29 (.int .i64 t1244.1) z (fu 30 (.int .i64 z1798) z (fu 33 (.int .i64 t1810.1) z (fu 34 (.int .i64 (0:Int)) z z)))))))), (HL.le.refl _), hst⟩ ?_
 rintro n1929 _ w1924 ⟨I1921, z1916, z1917, z1918, v1919, σ1922, hm, rfl, hL1925, hst⟩
 obtain ⟨n1926, y1927, rfl, hm, hx1928⟩ := loopN_some hm
 dsimp only [command_ReadReply_l4] at hm
 replace hI0 := hI0.trans hL1925
 replace hL1803 := hL1803.trans hL1925
 replace hL1971 := hL1971.trans hL1925
 refine wp_seq (wrl (wv (.bool (decide (z1917 < t1810.1))) z z z (wl_nil (tn (wp_seq ?_)))))
 refine bsplit (decide (z1917 < t1810.1)) (fun hc1930 => ?_) (fun hc1930 => ?_)
 {
 replace hm := bif_t hc1930 hm
 refine wp_ift (cvb hc1930) ?_
 refine wp_skip (tn (wp_seq (wp_block (wrl ?_))))
 refine wv (v1919) z z z (wv (p0) z z z ?_)
 replace hst := hst.pull1
 obtain ⟨t1931, ht1932, hm⟩ := bind_some hm
 refine wc call30 [p0, I6 (8:Int)] z z z ?_
 refine (octet_Reader_Num_ref hst.to1 ht1932).mono ?_
 rintro _ w1933 ⟨rfl, hst⟩
 refine ⟨_, z, ?_⟩
 replace hst := hst.of1
 obtain ⟨t1936, ht1937, hm⟩ := bind_some hm
 refine wc call48 [U6 t1931.1] z z z ?_
 refine (number_Back_ref hst.to0 ht1937).mono ?_
 rintro _ w1938 ⟨rfl, hst⟩
 refine ⟨_, z, ?_⟩
 replace hst := hst.of0
 refine wv (p0) z z z ?_
 obtain ⟨t1941, ht1942, hm⟩ := bind_some hm
 refine wc call47 [p0, I6 (256:Int)] z z z ?_
 refine (octet_Reader_Bytes_ref hst.to1 ht1942).mono ?_
 rintro _ w1943 ⟨v1946, rfl, hst⟩
 refine ⟨_, z, ?_⟩
 replace hst := hst.of2
 refine wv (.agg #[F6 t1936, v1946]) z z (by obtain ⟨_, _, hv_, _⟩ := hst.sv0; rw [hv_]; kernel_rfl) ?_
 obtain ⟨I1950, hI1951, f1952, hst⟩ := hst.own_fix
 replace hI0 := hI0.trans hI1951
 replace hL1803 := hL1803.trans hI1951
 replace hL1971 := hL1971.trans hI1951
 replace hL1925 := hL1925.trans hI1951
 obtain ⟨b1953, w1954, ew1955, eb1956, hst⟩ := hst.lits (E := ty_api_Pair) (xs := [({ At := t1936, Val := t1941.1 } : api_Pair)]) [[F6 t1936, v1946]] 64 1 z (Reps.cons ⟨_, z, f1952, one_of_sliceV (ro_sliceV f1952)⟩ Reps.nil)
 refine wl_run (v := (.slice (some ⟨b1953, 0, none⟩) 1 1)) (w' := w1954) z z (x_als (by kernel_rfl) ew1955 eb1956) ?_
 obtain ⟨hg1958, hm⟩ := gd_some hm
 replace hst := hst.pull2
 obtain ⟨v1959, w1960, hr1961, hst⟩ := run_append elem_60 underlying60 hst hst.src1 (room_of hg1958 z) 60
 refine wl_run (v := v1959) (w' := w1960) z z (x_append z z hr1961) ?_
 refine wv (v1959) z z z (wl_nil (blk_n (tn (wrl (wv (.int .i64 (i64.wrap (z1917 + (1:Int)))) z z z (wv (.int .i64 (i64.wrap (z1917 + (1:Int)))) z z z (wl_nil (tn ?_))))))))
 replace hst := hst.pull6.pull6.pull6.pull6.pull6.pull5.keep6
 obtain rfl := some_inj hm
 exact ⟨_, Nat.lt_succ_self _, _, t1941.2, (i64.wrap (z1917 + (1:Int))), (z1918 ++ ([({ At := t1936, Val := t1941.1 } : api_Pair)])), v1959, _, hx1928, (fu 0 p0 z (fu 2 (Pt b1062 0) z (fu 3 (Pt b1086 0) z (fu 4 v1959 z (fu 29 (.int .i64 t1244.1) z (fu 30 (.int .i64 z1798) z (fu 33 (.int .i64 t1810.1) z (fu 34 (.int .i64 (i64.wrap (z1917 + (1:Int)))) z z)))))))), hL1925, hst⟩
}
 {
 replace hm := bif_f hc1930 hm
 refine wp_iff (cvb hc1930) ?_
 refine wp_exit (then_x (then_x ?_))
 replace hm := inr_up hm hx1928
 refine blk_x (tn ?_)
 replace hst := hst.pull2.pull5.pull5.pull5.pull5.keep6
 obtain rfl := some_inj hm
 exact ⟨_, z1916, z1918, v1919, _, hx1970, (fu 0 p0 z (fu 2 (Pt b1062 0) z (fu 3 (Pt b1086 0) z (fu 4 v1919 z (fu 29 (.int .i64 t1244.1) z (fu 30 (.int .i64 z1798) z z)))))), hL1971, hst⟩
}
}
 {
 clear hst
 rintro _ w1972 ⟨I1966, z1962, z1965, v1964, σ1967, hm, rfl, hL1968, hst⟩
 dsimp only [command_ReadReply_j3] at hm
 replace hI0 := hI0.trans hL1968
 replace hL1803 := hL1803.trans hL1968
 refine wrl (wv (Pt b1086 4) z z (x_field z underlying36 z sizeOf34 z) (wv (v1795) z z (x_load z isAgg34 (hst.bc2 z)) (wv (v1964) z z z ?_)))
 replace hst := hst.pull5
 obtain ⟨I1974, hI1975, f1976, hst⟩ := hst.own_fix
 replace hI0 := hI0.trans hI1975
 replace hL1803 := hL1803.trans hI1975
 obtain ⟨b1977, w1978, ew1979, eb1980, hst⟩ := hst.lits (E := (tySl ty_api_Pair)) (xs := [z1965]) [[v1964]] 60 1 z (Reps.cons ⟨_, z, f1976, one_of_sliceV (ro_sliceV f1976)⟩ Reps.nil)
 refine wl_run (v := (.slice (some ⟨b1977, 0, none⟩) 1 1)) (w' := w1978) z z (x_als (by obtain ⟨_, _, hv_, _⟩ := (ro_sliceV f1976); rw [hv_]; kernel_rfl) ew1979 eb1980) ?_
 obtain ⟨hg1982, hm⟩ := gd_some hm
 replace hst := hst.pull5
 obtain ⟨v1983, w1984, hr1985, hst⟩ := run_append elem_34 underlying34 hst hst.src1 (room_of hg1982 z) 34
 refine wl_run (v := v1983) (w' := w1984) z z (x_append z z hr1985) ?_
 refine wv (Pt b1086 4) z z (x_field z underlying36 z sizeOf34 z) ?_
 replace hst := hst.pull4
 obtain ⟨w1986, hr1987, hst⟩ := hst.boxStore1 (P := prog) (t := 34) (cs' := [I6 (i64.wrap t1067.1), U6 t1072.1, U6 t1077.1, v1235, v1983]) 4 v1983 (one_of_sliceV hst.sv1) sizeOf34 z z
 refine wl_unit z z (x_unit hr1987) ?_
 refine wl_nil (blk_n (tn (wrl (wv (.int .i64 (i64.wrap (z1798 + (1:Int)))) z z z (wv (.int .i64 (i64.wrap (z1798 + (1:Int)))) z z z (wl_nil (tn ?_)))))))
 replace hst := hst.pull5.pull1.pull5.pull5.pull4.keep5
 obtain rfl := some_inj hm
 exact ⟨_, Nat.lt_succ_self _, _, (z1794 ++ ([z1965])), z1962, (i64.wrap (z1798 + (1:Int))), v1983, _, hx1806, (fu 0 p0 z (fu 2 (Pt b1062 0) z (fu 3 (Pt b1086 0) z (fu 29 (.int .i64 t1244.1) z (fu 30 (.int .i64 (i64.wrap (z1798 + (1:Int)))) z z))))), hL1803, hst⟩
}
}
 {
 replace hm := bif_f hc1808 hm
 refine wp_iff (cvb hc1808) ?_
 refine wp_exit (then_x (then_x ?_))
 replace hm := inr_up hm hx1806
 refine blk_x (tn (wp_seq (wrl ?_)))
 refine wv (.agg #[I6 (i64.wrap t1067.1), U6 t1072.1, U6 t1077.1, v1235, v1795]) z z (x_loadN (cs := [I6 (i64.wrap t1067.1), U6 t1072.1, U6 t1077.1, v1235, v1795]) z isAgg36 sizeOf36 (hst.bcs3 0 z)) ?_
 replace hst := hst.pull2
 obtain ⟨w1988, hr1989, hst⟩ := hst.bx [I6 (i64.wrap t1067.1), U6 t1072.1, U6 t1077.1, v1235, v1795] sizeOf36 z (oC z (oC z (oC z (oC (one_of_sliceV hst.sv4) (oC (one_of_sliceV hst.sv1) oN))))) (by kernel_rfl)
 refine wl_unit z z (x_unit hr1989) ?_
 refine wl_nil (tn (wp_ret ?_))
 obtain rfl := some_inj hm
 refine post_ret (vs := [.agg #[I6 (i64.wrap t1067.1), U6 t1072.1, U6 t1077.1, v1235, v1795]]) results31 (rvs_cons (rv_cell (cs := [I6 (i64.wrap t1067.1), U6 t1072.1, U6 t1077.1, v1235, v1795]) z isAgg36 sizeOf36 (hst.bcs0 0 z)) rvs_nil) ?_
 replace hst := hst.pull2.pull2.pull4
 exact ⟨_, v1235, v1795, z, hI0, hst.keep3⟩
}
}
}

theorem octet_Reader_End_ref {w0 w : World} {I : HL} {R : SP} {a0 : octet_Reader} {p0 : Value}  (hst : St w0 w I [at_octet_Reader p0 a0] R) {r : (Bool)} (hm : octet_Reader_End a0 = some r) :
  Calls prog 32 #[p0] w fun e w' => e = .returned (.bool r) ∧ St w0 w' I [at_octet_Reader p0 a0] R := by {
 unfold octet_Reader_End at hm
 refine calls_start (args := [p0]) func32 z ntmps32 (Nat.le_of_ble_eq_true z) ?_
 refine wp_seq (wrl (wv (.bool false) z z z (wl_nil (tn (wp_seq (wrl (wv (p0) z z z ?_)))))))
 obtain ⟨t393, ht394, hm⟩ := bind_some hm
 refine wc call45 [p0] z z z ?_
 refine (octet_Reader_Bad_ref hst.to1 ht394).mono ?_
 rintro _ w395 ⟨rfl, hst⟩
 refine ⟨_, z, ?_⟩
 replace hst := hst.of1
 refine wv (.bool (!t393)) z z z (wv (.bool (!t393)) z z z ?_)
 refine bsplit (!t393) (fun hc398 => ?_) (fun hc398 => ?_)
 {
 replace hm := bif_t hc398 hm
 refine wv (p0) ((wanted_eq z z z (cvb hc398)).trans z) z z ?_
 obtain ⟨b399, v400, ⟨rfl, f402⟩, hst'⟩ := at_octet_Reader_open hst
 clear hst
 have hst := hst'
 clear hst'
 refine wv (Pt b399 0) ((wanted_eq z z z (cvb hc398)).trans z) z z (wv (Pt b399 0) ((wanted_eq z z z (cvb hc398)).trans z) z (x_field z underlying93 z sizeOf22 z) (wv (v400) ((wanted_eq z z z (cvb hc398)).trans z) z (x_load z isAgg22 (hst.bc0 z)) (wv (.int .i64 ((a0.p).length : Int)) ((wanted_eq z z z (cvb hc398)).trans z) z (x_len z underlying22 (ro_sliceV f402)) (wv (.bool (((a0.p).length : Int) == (0:Int))) ((wanted_eq z z z (cvb hc398)).trans z) z z (wv (.bool (((a0.p).length : Int) == (0:Int))) z z (x_pick_t hc398 z z) (wv (.bool (((a0.p).length : Int) == (0:Int))) z z z (wl_nil (tn (wp_ret ?_)))))))))
 replace hst := at_octet_Reader_close (pv := Pt b399 0) (x := a0) hst ⟨z, f402⟩
 obtain rfl := some_inj hm
 refine post_ret (vs := [.bool (((a0.p).length : Int) == (0:Int))]) results32 (rvs_cons (rv_tmp z) rvs_nil) ?_
 exact ⟨z, hst.keep1⟩
}
 {
 replace hm := bif_f hc398 hm
 refine wo hc398 z z z z z z (wo hc398 z z z z z z (wo hc398 z z z z z z (wo hc398 z z z z z z (wo hc398 z z z z z z (wo hc398 z z z z z z (wv (.bool false) z z (x_pick_f hc398 z z) (wv (.bool false) z z z (wl_nil (tn (wp_ret ?_))))))))))
 obtain rfl := some_inj hm
 refine post_ret (vs := [.bool false]) results32 (rvs_cons (rv_tmp z) rvs_nil) ?_
 exact ⟨z, hst.keep1⟩
}
}

theorem slices_Equal_byte_byte_ref {w0 w : World} {I : HL} {R : SP} {a0 : (List Int)} {r0_0 : Value} {a1 : (List Int)} {r1_0 : Value} (f0_0 : Rd (tyInt .u8) R I r0_0 a0) (f1_0 : Rd (tyInt .u8) R I r1_0 a1) (hst : St w0 w I [] R) {r : (Bool)} (hm : slices_Equal_byte_byte a0 a1 = some r) :
  Calls prog 33 #[r0_0, r1_0] w fun e w' => e = .returned (.bool r) ∧ St w0 w' I [] R := by {
 unfold slices_Equal_byte_byte at hm
 refine calls_start (args := [r0_0, r1_0]) func33 z ntmps33 (Nat.le_of_ble_eq_true z) ?_
 refine wp_seq (wrl (wv (.bool false) z z z (wl_nil (tn (wp_seq (wp_seq (wrl (wv (r0_0) z z z (wv (.int .i64 ((a0).length : Int)) z z (x_len z underlying22 (rd_sliceV f0_0)) (wv (r1_0) z z z (wv (.int .i64 ((a1).length : Int)) z z (x_len z underlying22 (rd_sliceV f1_0)) (wv (.bool (((a0).length : Int) != ((a1).length : Int))) z z z (wl_nil (tn ?_))))))))))))))
 refine bsplit (((a0).length : Int) != ((a1).length : Int)) (fun hc445 => ?_) (fun hc445 => ?_)
 {
 replace hm := bif_t hc445 hm
 refine wp_ift (cvb hc445) ?_
 refine wp_seq (wrl (wv (.bool false) z z z (wl_nil (tn (wp_ret (then_r ?_))))))
 obtain rfl := some_inj hm
 refine post_ret (vs := [.bool false]) results33 (rvs_cons (rv_tmp z) rvs_nil) ?_
 exact ⟨z, hst.keep0⟩
}
 {
 replace hm := bif_f hc445 hm
 refine wp_iff (cvb hc445) ?_
 refine wp_skip (tn (wp_seq (wp_seq (wrl ?_))))
 refine wv (r0_0) z z z (wv (.int .i64 ((a0).length : Int)) z z (x_len z underlying22 (rd_sliceV f0_0)) (wv (.int .i64 (0:Int)) z z z (wl_nil (tn (wp_block ?_)))))
 obtain ⟨n473, hm⟩ := loopO_some hm
 refine wp_loop_n (fun n a w => ∃ (z471 : Int) (σ472 : Nat → Value), loopN (slices_Equal_byte_byte_l0 a0 a1) n z471 = some r ∧ a = Fr 26 (upd (upd (upd (upd σ472 0 (r0_0)) 1 (r1_0)) 12 (.int .i64 ((a0).length : Int))) 13 (.int .i64 z471)) ∧ St w0 w I [] R) n473 ⟨(0:Int), _, hm, (fu 0 r0_0 z (fu 1 r1_0 z (fu 12 (.int .i64 ((a0).length : Int)) z (fu 13 (.int .i64 (0:Int)) z z)))), hst⟩ ?_
 rintro n479 _ w474 ⟨z471, σ472, hm, rfl, hst⟩
 obtain ⟨n476, y477, rfl, hm, hx478⟩ := loopN_some hm
 dsimp only [slices_Equal_byte_byte_l0] at hm
 refine wp_seq (wrl (wv (.bool (decide (z471 < ((a0).length : Int)))) z z z (wl_nil (tn (wp_seq ?_)))))
 refine bsplit (decide (z471 < ((a0).length : Int))) (fun hc480 => ?_) (fun hc480 => ?_)
 {
 replace hm := bif_t hc480 hm
 refine wp_ift (cvb hc480) ?_
 refine wp_skip (tn (wp_seq (wp_block (wp_seq (wrl ?_)))))
 refine wv (.int .i64 z471) z z z (wv (.int .i64 z471) z z z (wl_nil (tn (wp_seq ?_))))
 refine wq_regionS hst Try.mixed (by kernel_rfl) ?_
 refine wq_run (v := r0_0) z z (fun w hst => z) ?_
 refine wq_run (v := .int .i64 z471) z z (fun w hst => z) ?_
 obtain ⟨x481, hx482, hm⟩ := bind_some hm
 obtain ⟨h483, h484, hi485⟩ := geto_some hx482
 refine wq_run (v := .pointer (some (eAddr r0_0 (z471.toNat * 1 + 0)))) z z (fun w hst => x_index z z underlying22 sizeOf5 (rd_sliceV f0_0) h483 h484) ?_
 refine wq_run (v := .int .u8 x481) z z (fun w hst => x_load z isAgg5 (rd_load f0_0 (HL.le.refl _) hst hi485 (by rintro _ rfl; rfl))) ?_
 refine wq_run (v := r1_0) z z (fun w hst => z) ?_
 refine wq_run (v := .int .i64 z471) z z (fun w hst => z) ?_
 obtain ⟨x486, hx487, hm⟩ := bind_some hm
 obtain ⟨h488, h489, hi490⟩ := geto_some hx487
 refine wq_run (v := .pointer (some (eAddr r1_0 (z471.toNat * 1 + 0)))) z z (fun w hst => x_index z z underlying22 sizeOf5 (rd_sliceV f1_0) h488 h489) ?_
 refine wq_run (v := .int .u8 x486) z z (fun w hst => x_load z isAgg5 (rd_load f1_0 (HL.le.refl _) hst hi490 (by rintro _ rfl; rfl))) ?_
 refine wq_run (v := .bool (x481 != x486)) z z (fun w hst => z) ?_
 refine wq_nil ?_
 intro w hst
 refine tn ?_
 refine bsplit (x481 != x486) (fun hc491 => ?_) (fun hc491 => ?_)
 {
 replace hm := bif_t hc491 hm
 refine wp_ift (cvb hc491) ?_
 refine wp_seq (wrl (wv (.bool false) z z z (wl_nil (tn (wp_ret (blk_r (then_r (then_r ?_))))))))
 replace hm := inr_up hm hx478
 refine blk_r (then_r ?_)
 obtain rfl := some_inj hm
 refine post_ret (vs := [.bool false]) results33 (rvs_cons (rv_tmp z) rvs_nil) ?_
 exact ⟨z, hst.keep0⟩
}
 {
 replace hm := bif_f hc491 hm
 refine wp_iff (cvb hc491) ?_
 refine wp_skip (blk_n (tn (wrl ?_)))
 refine wv (.int .i64 (i64.wrap (z471 + (1:Int)))) z z z (wv (.int .i64 (i64.wrap (z471 + (1:Int)))) z z z (wl_nil (tn ?_)))
 replace hst := hst.keep0
 obtain rfl := some_inj hm
 exact ⟨_, Nat.lt_succ_self _, (i64.wrap (z471 + (1:Int))), _, hx478, (fu 0 r0_0 z (fu 1 r1_0 z (fu 12 (.int .i64 ((a0).length : Int)) z (fu 13 (.int .i64 (i64.wrap (z471 + (1:Int)))) z z)))), hst⟩
}
}
 {
 replace hm := bif_f hc480 hm
 refine wp_iff (cvb hc480) ?_
 refine wp_exit (then_x (then_x ?_))
 replace hm := inr_up hm hx478
 refine blk_x (tn (wp_seq (wrl ?_)))
 refine wv (.bool true) z z z (wl_nil (tn (wp_ret ?_)))
 obtain rfl := some_inj hm
 refine post_ret (vs := [.bool true]) results33 (rvs_cons (rv_tmp z) rvs_nil) ?_
 exact ⟨z, hst.keep0⟩
}
}
}

theorem session_Decode_ref {w0 w : World} {I : HL} {R : SP} {a0 : (List Int)} {r0_0 : Value} (f0_0 : Ro (tyInt .u8) I r0_0 a0) (hst : St w0 w I [] R) {r : (Option session_Table × Int)} (hm : session_Decode a0 = some r) :
  Calls prog 18 #[r0_0] w fun e w' => ∃ (I' : HL) (q0 : Value), e = .returned (.tuple #[q0, I6 r.2]) ∧ I.le I' ∧ St w0 w' I' [objO at_session_Table q0 r.1] R := by {
 unfold session_Decode at hm
 refine calls_start (args := [r0_0]) func18 z ntmps18 (Nat.le_of_ble_eq_true z) ?_
 have hI0 := HL.le.refl I
 refine wp_seq (wrl (wv (.pointer none) z z z (wv (.int .i64 (0:Int)) z z z (wl_nil (tn (wp_seq (wrl (wv (r0_0) z z z ?_))))))))
 obtain ⟨t403, ht404, hm⟩ := bind_some hm
 refine wc call27 [r0_0] z z z ?_
 refine (octet_Read_ref f0_0 hst.to0 ht404).mono ?_
 rintro _ w405 ⟨v408, rfl, hst⟩
 refine ⟨_, z, ?_⟩
 replace hst := hst.of1
 refine wv (v408) z z z (wl_nil (tn (wp_seq (wrl ?_))))
 obtain ⟨t410, ht411, hm⟩ := bind_some hm
 refine wc call8 [] z z z ?_
 refine (session_New_ref hst.to0 ht411).mono ?_
 rintro _ w412 ⟨v415, rfl, hst⟩
 refine ⟨_, z, ?_⟩
 replace hst := hst.of1
 refine wv (v415) z z z (wl_nil (tn ?_))
 obtain ⟨y687, hm, hx688⟩ := joinO_some hm
 refine wp_cut (fun a w => ∃ (I684 : HL) (z682 : octet_Reader) (z683 : session_Table) (σ685 : Nat → Value), (session_Decode_j0 a0) (z682, z683) = some r ∧ a = Fr 68 (upd (upd (upd σ685 0 (r0_0)) 4 (v408)) 5 (v415)) ∧ I.le I684 ∧ St w0 w I684 [at_octet_Reader v408 z682, at_session_Table v415 z683] R) ?_ ?_
 {
 have hL689 := HL.le.refl I
 refine wp_seq (wrl (wv (v408) z z z (wv (v408) z z z ?_)))
 replace hst := hst.pull1
 obtain ⟨t417, ht418, hm⟩ := bind_some hm
 refine wc call29 [v408] z z z ?_
 refine (octet_Reader_Left_ref hst.to1 ht418).mono ?_
 rintro _ w419 ⟨rfl, hst⟩
 refine ⟨_, z, ?_⟩
 replace hst := hst.of1
 obtain ⟨t422, ht423, hm⟩ := bind_some hm
 refine wc call28 [v408, I6 t417] z z z ?_
 refine (octet_Reader_Count_ref hst.to1 ht423).mono ?_
 rintro _ w424 ⟨rfl, hst⟩
 refine ⟨_, z, ?_⟩
 replace hst := hst.of1
 refine wv (.int .i64 (0:Int)) z z z (wl_nil (tn (wp_block ?_)))
 obtain ⟨n595, hm⟩ := loopO_some hm
 refine wp_loop_n (fun n a w => ∃ (I593 : HL) (z590 : octet_Reader) (z591 : session_Table) (z592 : Int) (σ594 : Nat → Value), loopN (session_Decode_l1 t422) n (z590, z591, z592) = some y687 ∧ a = Fr 68 (upd (upd (upd (upd (upd σ594 0 (r0_0)) 4 (v408)) 5 (v415)) 14 (.int .i64 t422.1)) 15 (.int .i64 z592)) ∧ I.le I593 ∧ St w0 w I593 [at_octet_Reader v408 z590, at_session_Table v415 z591] R) n595 ⟨_, t422.2, t410, (0:Int), _, hm, (fu 0 r0_0 z (fu 4 v408 z (fu 5 v415 z (fu 14 (.int .i64 t422.1) z (fu 15 (.int .i64 (0:Int)) z z))))), (HL.le.refl _), hst⟩ ?_
 rintro n601 _ w596 ⟨I593, z590, z591, z592, σ594, hm, rfl, hL597, hst⟩
 obtain ⟨n598, y599, rfl, hm, hx600⟩ := loopN_some hm
 dsimp only [session_Decode_l1] at hm
 replace f0_0 := f0_0.mono (ro_le hL597)
 replace hI0 := hI0.trans hL597
 replace hL689 := hL689.trans hL597
 refine wp_seq (wrl (wv (.bool (decide (z592 < t422.1))) z z z (wl_nil (tn (wp_seq ?_)))))
 refine bsplit (decide (z592 < t422.1)) (fun hc602 => ?_) (fun hc602 => ?_)
 {
 replace hm := bif_t hc602 hm
 refine wp_ift (cvb hc602) ?_
 refine wp_skip (tn (wp_seq (wp_block (wp_seq (wrl ?_)))))
 refine wv (.int .i64 z592) z z z (wv (.int .i64 z592) z z z (wl_nil (tn (wp_seq (wrl (wv (v408) z z z ?_))))))
 obtain ⟨t603, ht604, hm⟩ := bind_some hm
 refine wc call30 [v408, I6 (8:Int)] z z z ?_
 refine (octet_Reader_Num_ref hst.to1 ht604).mono ?_
 rintro _ w605 ⟨rfl, hst⟩
 refine ⟨_, z, ?_⟩
 replace hst := hst.of1
 refine wv (v408) z z z ?_
 obtain ⟨t608, ht609, hm⟩ := bind_some hm
 refine wc call30 [v408, I6 (8:Int)] z z z ?_
 refine (octet_Reader_Num_ref hst.to1 ht609).mono ?_
 rintro _ w610 ⟨rfl, hst⟩
 refine ⟨_, z, ?_⟩
 replace hst := hst.of1
 refine wv (v408) z z z ?_
 obtain ⟨t613, ht614, hm⟩ := bind_some hm
 refine wc call31 [v408] z z z ?_
 refine (command_ReadReply_ref hst.to1 ht614).mono ?_
 rintro _ w615 ⟨I616, v618, v620, rfl, hI617, hst⟩
 refine ⟨_, z, ?_⟩
 replace hst := hst.of3
 replace f0_0 := f0_0.mono (ro_le hI617)
 replace hI0 := hI0.trans hI617
 replace hL689 := hL689.trans hI617
 replace hL597 := hL597.trans hI617
 refine wv (.agg #[U6 t603.1, U6 t608.1, I6 t613.1.E, U6 t613.1.Epoch, U6 t613.1.Index, v618, v620]) z z (by kernel_rfl) ?_
 obtain ⟨b626, w627, ew628, eb629, hst⟩ := hst.box [Zu, Zu, Zi, Zu, Zu, Zs, Zs] 71
 refine wl_run (v := Pt b626 0) (w' := w627) z z (x_al (by kernel_rfl) ew628 eb629) ?_
 obtain ⟨w631, hr632, hst⟩ := hst.bx [U6 t603.1, U6 t608.1, I6 t613.1.E, U6 t613.1.Epoch, U6 t613.1.Index, v618, v620] sizeOf71 z (oC z (oC z (oC z (oC z (oC z (oC (one_of_sliceV hst.sv1) (oC (one_of_sliceV hst.sv2) oN))))))) (by kernel_rfl)
 refine wl_unit z z (x_unit hr632) ?_
 refine wl_nil (tn ?_)
 obtain ⟨y657, hm, hx658⟩ := joinO_some hm
 refine wp_cut (fun a w => ∃ (σ655 : Nat → Value), (session_Decode_j2 z591 t603 t608 t613 z592) () = some y599 ∧ a = Fr 68 (upd (upd (upd (upd (upd (upd σ655 0 (r0_0)) 4 (v408)) 5 (v415)) 7 (Pt b626 0)) 14 (.int .i64 t422.1)) 15 (.int .i64 z592)) ∧ St w0 w I616 [at_octet_Reader v408 t613.2, at_session_Table v415 z591, cells b626 [U6 t603.1, U6 t608.1, I6 t613.1.E, U6 t613.1.Epoch, U6 t613.1.Index, v618, v620], ownS ty_api_Got v618 t613.1.Gots, ownS (tySl ty_api_Pair) v620 t613.1.Scans] R) ?_ ?_
 {
 refine wp_seq ?_
 replace hst := hst.pull4
 obtain ⟨b633, v634, rfl, hst'⟩ := at_session_Table_open hst
 clear hst
 have hst := hst'
 clear hst'
 replace hst := hst.pull1
 obtain ⟨css636, hq637, hst⟩ := hst.own_open
 refine wq_regionS hst Try.mixed (by kernel_rfl) ?_
 refine wq_run (v := Pt b626 1) z z (fun w hst => x_field z underlying71 z sizeOf30 z) ?_
 refine wq_run (v := .int .u64 t608.1) z z (fun w hst => x_load z isAgg30 (hst.bc2 z)) ?_
 refine wq_run (v := .bool (t608.1 == (0:Int))) z z (fun w hst => z) ?_
 refine wq_run (v := .bool (t608.1 == (0:Int))) z z (fun w hst => z) ?_
 refine bsplit (t608.1 == (0:Int)) (fun hc638 => ?_) (fun hc638 => ?_)
 {
 replace hm := bif_t hc638 hm
 refine wq_off ((wanted_eq z z z (cvb hc638)).trans z) z ?_
 refine wq_off ((wanted_eq z z z (cvb hc638)).trans z) z ?_
 refine wq_off ((wanted_eq z z z (cvb hc638)).trans z) z ?_
 refine wq_off (wanted_undef z z z z) z ?_
 refine wq_off (wanted_undef z z z z) z ?_
 refine wq_off (wanted_undef z z z z) z ?_
 refine wq_off (wanted_undef z z z z) z ?_
 refine wq_off (wanted_undef z z z z) z ?_
 refine wq_off (wanted_undef z z z z) z ?_
 refine wq_off (wanted_undef z z z z) z ?_
 refine wq_off (wanted_undef z z z z) z ?_
 refine wq_off (wanted_undef z z z z) z ?_
 refine wq_off (wanted_undef z z z z) z ?_
 refine wq_off (wanted_undef z z z z) z ?_
 refine wq_off (wanted_undef z z z z) z ?_
 refine wq_off ((wanted_eq z z z (cvb hc638)).trans z) z ?_
 refine wq_run (v := .bool true) z z (fun w hst => x_pick_t hc638 z z) ?_
 refine wq_nil ?_
 intro w hst
 replace hst := hst.own_close hq637
 refine tn ?_
 refine wp_ift z ?_
 refine wp_seq (wrl (wv (.pointer none) z z z (wv (.int .i64 (5:Int)) z z z (wl_nil (tn (wp_ret (then_r ?_)))))))
 replace hm := inr_up hm hx658
 refine blk_r (then_r (then_r ?_))
 replace hm := inr_up hm hx600
 refine blk_r (then_r ?_)
 replace hm := inr_up hm hx688
 replace hst := hst.objO_nil at_session_Table
 obtain rfl := some_inj hm
 refine post_ret (vs := [.pointer none, I6 (5:Int)]) results18 (rvs_cons (rv_tmp z) (rvs_cons (rv_tmp z) rvs_nil)) ?_
 exact ⟨_, .pointer none, z, hI0, hst.keep1⟩
}
 {
 replace hm := bif_f hc638 hm
 refine wq_run (v := .int .i64 z592) ((wanted_eq z z z (cvb hc638)).trans z) z (fun w hst => z) ?_
 refine wq_run (v := .bool (decide (z592 > (0:Int)))) ((wanted_eq z z z (cvb hc638)).trans z) z (fun w hst => z) ?_
 refine wq_run (v := .bool (decide (z592 > (0:Int)))) ((wanted_eq z z z (cvb hc638)).trans z) z (fun w hst => z) ?_
 refine bsplit (decide (z592 > (0:Int))) (fun hc640 => ?_) (fun hc640 => ?_)
 {
 replace hm := bif_t hc640 hm
 refine wq_run (v := Pt b633 0) ((wanted_eq z z z (cvb hc640)).trans z) z (fun w hst => z) ?_
 refine wq_run (v := Pt b633 0) ((wanted_eq z z z (cvb hc640)).trans z) z (fun w hst => z) ?_
 refine wq_run (v := Pt b633 0) ((wanted_eq z z z (cvb hc640)).trans z) z (fun w hst => x_field z underlying56 z sizeOf54 z) ?_
 refine wq_run (v := v634) ((wanted_eq z z z (cvb hc640)).trans z) z (fun w hst => x_load z isAgg54 (hst.bc1 z)) ?_
 refine wq_run (v := .int .i64 z592) ((wanted_eq z z z (cvb hc640)).trans z) z (fun w hst => z) ?_
 refine wq_run (v := .int .i64 (i64.wrap (z592 - (1:Int)))) ((wanted_eq z z z (cvb hc640)).trans z) z (fun w hst => z) ?_
 obtain ⟨x641, hx642, hm⟩ := bind_some hm
 obtain ⟨h643, h644, hi645⟩ := geto_some hx642
 refine wq_run (v := .pointer (some (eAddr v634 ((i64.wrap (z592 - (1:Int))).toNat * 7 + 0)))) ((wanted_eq z z z (cvb hc640)).trans z) z (fun w hst => x_index z z underlying54 sizeOf71 (hst.rsv 0 z hq637) h643 h644) ?_
 refine wq_run (v := .pointer (some (eAddr v634 ((i64.wrap (z592 - (1:Int))).toNat * 7 + 0)))) ((wanted_eq z z z (cvb hc640)).trans z) z (fun w hst => x_field_e z underlying71 z sizeOf30 z) ?_
 obtain ⟨cs646, hc648, hr647⟩ := Reps.get hq637 hi645
 obtain ⟨v649, v652, rfl, f650, f653, -⟩ := hr647
 refine wq_run (v := .int .u64 x641.session) ((wanted_eq z z z (cvb hc640)).trans z) z (fun w hst => x_load z isAgg30 ((hst.rcell 0 z hc648) 0 _ z)) ?_
 refine wq_run (v := Pt b626 0) ((wanted_eq z z z (cvb hc640)).trans z) z (fun w hst => x_field z underlying71 z sizeOf30 z) ?_
 refine wq_run (v := .int .u64 t603.1) ((wanted_eq z z z (cvb hc640)).trans z) z (fun w hst => x_load z isAgg30 (hst.bc2 z)) ?_
 refine wq_run (v := .bool (decide (x641.session ≥ t603.1))) ((wanted_eq z z z (cvb hc640)).trans z) z (fun w hst => z) ?_
 refine wq_run (v := .bool (decide (x641.session ≥ t603.1))) ((wanted_eq z z z (cvb hc638)).trans z) z (fun w hst => x_pick_t hc640 z z) ?_
 refine wq_run (v := .bool (decide (x641.session ≥ t603.1))) z z (fun w hst => x_pick_f hc638 z z) ?_
 refine wq_nil ?_
 intro w hst
 replace hst := hst.own_close hq637
 refine tn ?_
 refine bsplit (decide (x641.session ≥ t603.1)) (fun hc655 => ?_) (fun hc655 => ?_)
 {
 replace hm := bif_t hc655 hm
 refine wp_ift (cvb hc655) ?_
 refine wp_seq (wrl (wv (.pointer none) z z z (wv (.int .i64 (5:Int)) z z z (wl_nil (tn (wp_ret (then_r ?_)))))))
 replace hm := inr_up hm hx658
 refine blk_r (then_r (then_r ?_))
 replace hm := inr_up hm hx600
 refine blk_r (then_r ?_)
 replace hm := inr_up hm hx688
 replace hst := hst.objO_nil at_session_Table
 obtain rfl := some_inj hm
 refine post_ret (vs := [.pointer none, I6 (5:Int)]) results18 (rvs_cons (rv_tmp z) (rvs_cons (rv_tmp z) rvs_nil)) ?_
 exact ⟨_, .pointer none, z, hI0, hst.keep1⟩
}
 {
 replace hm := bif_f hc655 hm
 refine wp_iff (cvb hc655) ?_
 refine wp_skip (tn ?_)
 replace hst := hst.pull1
 replace hst := at_session_Table_close (pv := Pt b633 0) (x := z591) hst z
 replace hst := hst.pull3.pull3.pull3.pull3.pull4.keep5
 obtain rfl := some_inj hm
 exact ⟨_, hx658, (fu 0 r0_0 z (fu 4 v408 z (fu 5 (Pt b633 0) z (fu 7 (Pt b626 0) z (fu 14 (.int .i64 t422.1) z (fu 15 (.int .i64 z592) z z)))))), hst⟩
}
}
 {
 replace hm := bif_f hc640 hm
 refine wq_off ((wanted_eq z z z (cvb hc640)).trans z) z ?_
 refine wq_off ((wanted_eq z z z (cvb hc640)).trans z) z ?_
 refine wq_off ((wanted_eq z z z (cvb hc640)).trans z) z ?_
 refine wq_off ((wanted_eq z z z (cvb hc640)).trans z) z ?_
 refine wq_off ((wanted_eq z z z (cvb hc640)).trans z) z ?_
 refine wq_off ((wanted_eq z z z (cvb hc640)).trans z) z ?_
 refine wq_off ((wanted_eq z z z (cvb hc640)).trans z) z ?_
 refine wq_off ((wanted_eq z z z (cvb hc640)).trans z) z ?_
 refine wq_off ((wanted_eq z z z (cvb hc640)).trans z) z ?_
 refine wq_off ((wanted_eq z z z (cvb hc640)).trans z) z ?_
 refine wq_off ((wanted_eq z z z (cvb hc640)).trans z) z ?_
 refine wq_off ((wanted_eq z z z (cvb hc640)).trans z) z ?_
 refine wq_run (v := .bool false) ((wanted_eq z z z (cvb hc638)).trans z) z (fun w hst => x_pick_f hc640 z z) ?_
 refine wq_run (v := .bool false) z z (fun w hst => x_pick_f hc638 z z) ?_
 refine wq_nil ?_
 intro w hst
 replace hst := hst.own_close hq637
 refine tn ?_
 refine wp_iff z ?_
 refine wp_skip (tn ?_)
 replace hst := hst.pull1
 replace hst := at_session_Table_close (pv := Pt b633 0) (x := z591) hst z
 replace hst := hst.pull3.pull3.pull3.pull3.pull4.keep5
 obtain rfl := some_inj hm
 exact ⟨_, hx658, (fu 0 r0_0 z (fu 4 v408 z (fu 5 (Pt b633 0) z (fu 7 (Pt b626 0) z (fu 14 (.int .i64 t422.1) z (fu 15 (.int .i64 z592) z z)))))), hst⟩
}
}
}
 {
 clear hst
 rintro _ w659 ⟨σ655, hm, rfl, hst⟩
 dsimp only [session_Decode_j2] at hm
 replace hst := hst.pull1
 obtain ⟨b660, v661, rfl, hst'⟩ := at_session_Table_open hst
 clear hst
 have hst := hst'
 clear hst'
 refine wp_region_St hst 11 [0, 1, 2, 3, 4, 5, 6, 7, 8, 9, 10] [0, 0, 2, 6, 14, 0, 32, 126, 255, 511, 1023] [] z (by kernel_rfl) (by kernel_rfl) Try.mixed (by kernel_rfl) ?_
 refine wsr (Pt b660 0) 0 z z z (by kernel_rfl) (fun w hst => z) (wsr (Pt b660 0) 1 z z z (by kernel_rfl) (fun w hst => z) (wsr (Pt b660 0) 2 z z z (by kernel_rfl) (fun w hst => z) (wsr (Pt b660 0) 3 z z z (by kernel_rfl) (fun w hst => x_field z underlying56 z sizeOf54 z) (wsr (v661) 4 z z z (by kernel_rfl) (fun w hst => x_load z isAgg54 (hst.bc0 z)) (wsr (.agg #[U6 t603.1, U6 t608.1, I6 t613.1.E, U6 t613.1.Epoch, U6 t613.1.Index, v618, v620]) 5 z z z (by kernel_rfl) (fun w hst => x_loadN (cs := [U6 t603.1, U6 t608.1, I6 t613.1.E, U6 t613.1.Epoch, U6 t613.1.Index, v618, v620]) z isAgg71 sizeOf71 (hst.bcs3 0 z)) ?_)))))
 refine ws_e1 6 (by kernel_rfl) ?_
 refine nxe [7, 8, 9, 10] (by kernel_rfl) z z ?_
 clear hst
 intro w hst
 replace hst := hst.pull4
 obtain ⟨I665, hI666, f667, hst⟩ := hst.own_fix
 replace f0_0 := f0_0.mono (ro_le hI666)
 replace hI0 := hI0.trans hI666
 replace hL689 := hL689.trans hI666
 replace hL597 := hL597.trans hI666
 replace hst := hst.pull4
 obtain ⟨I668, hI669, f670, hst⟩ := hst.own_fix
 replace f0_0 := f0_0.mono (ro_le hI669)
 replace f667 := f667.mono (ro_le hI669)
 replace hI0 := hI0.trans hI669
 replace hL689 := hL689.trans hI669
 replace hL597 := hL597.trans hI669
 obtain ⟨b671, w672, ew673, eb674, hst⟩ := hst.lits (E := ty_session_row) (xs := [({ session := t603.1, seq := t608.1, r := t613.1 } : session_row)]) [[U6 t603.1, U6 t608.1, I6 t613.1.E, U6 t613.1.Epoch, U6 t613.1.Index, v618, v620]] 71 1 z (Reps.cons ⟨_, _, z, f667, f670, one_of_sliceV (ro_sliceV f667), one_of_sliceV (ro_sliceV f670)⟩ Reps.nil)
 refine we_run (v := (.slice (some ⟨b671, 0, none⟩) 1 1)) (w' := w672) z (x_als (by kernel_rfl) ew673 eb674) ?_
 refine ws_next (pend' := [(4, v661), (3, Pt b660 0), (2, Pt b660 0), (1, Pt b660 0), (0, Pt b660 0)]) hst (by kernel_rfl) (pkr z z (fun w hst => x_load z isAgg54 (hst.bc1 z)) (pkr z z (fun w hst => x_field z underlying56 z sizeOf54 z) (pkr z z (fun w hst => z) (pkr z z (fun w hst => z) (pkr z z (fun w hst => z) pk_nil))))) ?_
 refine ws_e1 7 (by kernel_rfl) ?_
 refine nxe [8, 9, 10] (by kernel_rfl) z z ?_
 clear hst
 intro w hst
 obtain ⟨hg676, hm⟩ := gd_some hm
 replace hst := hst.pull2
 obtain ⟨v677, w678, hr679, hst⟩ := run_append elem_54 underlying54 hst hst.src1 (room_of hg676 z) 54
 refine we_run (v := v677) (w' := w678) z (x_append z z hr679) ?_
 refine ws_next (pend' := [(0, Pt b660 0)]) hst (by kernel_rfl) (pkr z z (fun w hst => z) pk_nil) ?_
 refine wsr (Pt b660 0) 8 z z z (by kernel_rfl) (fun w hst => z) (wsr (Pt b660 0) 9 z z z (by kernel_rfl) (fun w hst => x_field z underlying56 z sizeOf54 z) ?_)
 refine ws_e1 10 (by kernel_rfl) ?_
 refine nxe [] (by kernel_rfl) z z ?_
 clear hst
 intro w hst
 replace hst := hst.pull2
 obtain ⟨w680, hr681, hst⟩ := hst.boxStore1 (P := prog) (t := 54) (cs' := [v677]) 0 v677 (one_of_sliceV hst.sv1) sizeOf54 z z
 refine we_unit z (x_unit hr681) ?_
 refine ws_next (pend' := []) hst (by kernel_rfl) pk_nil ?_
 refine ws_nil ?_
 intro w hst
 refine blk_n (tn (wrl ?_))
 refine wv (.int .i64 (i64.wrap (z592 + (1:Int)))) z z z (wv (.int .i64 (i64.wrap (z592 + (1:Int)))) z z z (wl_nil (tn ?_)))
 replace hst := hst.pull1.pull1
 replace hst := at_session_Table_close (pv := Pt b660 0) (x := ({ l := (z591.l ++ ([({ session := t603.1, seq := t608.1, r := t613.1 } : session_row)])) } : session_Table)) hst z
 replace hst := hst.pull2.keep2
 obtain rfl := some_inj hm
 exact ⟨_, Nat.lt_succ_self _, _, t613.2, ({ l := (z591.l ++ ([({ session := t603.1, seq := t608.1, r := t613.1 } : session_row)])) } : session_Table), (i64.wrap (z592 + (1:Int))), _, hx600, (fu 0 r0_0 z (fu 4 v408 z (fu 5 (Pt b660 0) z (fu 14 (.int .i64 t422.1) z (fu 15 (.int .i64 (i64.wrap (z592 + (1:Int)))) z z))))), hL597, hst⟩
}
}
 {
 replace hm := bif_f hc602 hm
 refine wp_iff (cvb hc602) ?_
 refine wp_exit (then_x (then_x ?_))
 replace hm := inr_up hm hx600
 refine blk_x (tn ?_)
 replace hst := hst.pull1.pull1.keep2
 obtain rfl := some_inj hm
 exact ⟨_, z590, z591, _, hx688, (fu 0 r0_0 z (fu 4 v408 z (fu 5 v415 z z))), hL689, hst⟩
}
}
 {
 clear hst
 rintro _ w690 ⟨I684, z682, z683, σ685, hm, rfl, hL686, hst⟩
 dsimp only [session_Decode_j0] at hm
 replace f0_0 := f0_0.mono (ro_le hL686)
 replace hI0 := hI0.trans hL686
 refine wp_seq (wp_seq (wrl (wv (v408) z z z ?_)))
 obtain ⟨t691, ht692, hm⟩ := bind_some hm
 refine wc call32 [v408] z z z ?_
 refine (octet_Reader_End_ref hst.to1 ht692).mono ?_
 rintro _ w693 ⟨rfl, hst⟩
 refine ⟨_, z, ?_⟩
 replace hst := hst.of1
 refine wv (.bool (!t691)) z z z (wv (.bool (!t691)) z z z ?_)
 refine bsplit (!t691) (fun hc696 => ?_) (fun hc696 => ?_)
 {
 replace hm := bif_t hc696 hm
 refine wo hc696 z z z z z z (wo hc696 z z z z z z (wo hc696 z z z z z z (wo hc696 z z z z z z (wo hc696 z z z z z z (wv (.bool true) z z (x_pick_t hc696 z z) (wl_nil (tn ?_)))))))
 refine wp_ift z ?_
 refine wp_seq (wrl (wv (.pointer none) z z z (wv (.int .i64 (5:Int)) z z z (wl_nil (tn (wp_ret (then_r ?_)))))))
 replace hst := hst.objO_nil at_session_Table
 obtain rfl := some_inj hm
 refine post_ret (vs := [.pointer none, I6 (5:Int)]) results18 (rvs_cons (rv_tmp z) (rvs_cons (rv_tmp z) rvs_nil)) ?_
 exact ⟨_, .pointer none, z, hI0, hst.keep1⟩
}
 {
 replace hm := bif_f hc696 hm
 refine wv (v415) ((wanted_eq z z z (cvb hc696)).trans z) z z ?_
 replace hst := hst.pull1
 replace hst := objO_some hst
 obtain ⟨t698, ht699, hm⟩ := bind_some hm
 refine wl_call ((wanted_eq z z z (cvb hc696)).trans z) z (x_call call19 z (vs := [v415]) z) ?_
 refine (session_Table_Encode_ref hst.to1 ht699).mono ?_
 rintro _ w700 ⟨v703, rfl, hst⟩
 refine ⟨_, z, ?_⟩
 replace hst := hst.of2.pull1
 replace hst := objO_get hst
 refine wv (r0_0) ((wanted_eq z z z (cvb hc696)).trans z) z z ?_
 replace hst := hst.pull1
 obtain ⟨css705, hq706, hst⟩ := hst.own_open
 obtain ⟨t707, ht708, hm⟩ := bind_some hm
 refine wl_call ((wanted_eq z z z (cvb hc696)).trans z) z (x_call call33 z (vs := [v703, r0_0]) z) ?_
 refine (slices_Equal_byte_byte_ref (hst.rdrow0 hq706) (f0_0.mono ro_rd) hst.to0 ht708).mono ?_
 rintro _ w709 ⟨rfl, hst⟩
 refine ⟨_, z, ?_⟩
 replace hst := hst.of0.own_close hq706
 refine wv (.bool (!t707)) ((wanted_eq z z z (cvb hc696)).trans z) z z (wv (.bool (!t707)) z z (x_pick_f hc696 z z) (wl_nil (tn ?_)))
 refine bsplit (!t707) (fun hc712 => ?_) (fun hc712 => ?_)
 {
 replace hm := bif_t hc712 hm
 refine wp_ift (cvb hc712) ?_
 refine wp_seq (wrl (wv (.pointer none) z z z (wv (.int .i64 (5:Int)) z z z (wl_nil (tn (wp_ret (then_r ?_)))))))
 replace hst := hst.objO_nil at_session_Table
 obtain rfl := some_inj hm
 refine post_ret (vs := [.pointer none, I6 (5:Int)]) results18 (rvs_cons (rv_tmp z) (rvs_cons (rv_tmp z) rvs_nil)) ?_
 exact ⟨_, .pointer none, z, hI0, hst.keep1⟩
}
 {
 replace hm := bif_f hc712 hm
 refine wp_iff (cvb hc712) ?_
 refine wp_skip (tn (wp_seq (wrl ?_)))
 refine wv (v415) z z z (wv (v415) z z z (wv (.int .i64 (0:Int)) z z z (wl_nil (tn (wp_ret ?_)))))
 replace hst := hst.pull1
 replace hst := objO_some hst
 obtain rfl := some_inj hm
 refine post_ret (vs := [v415, Zi]) results18 (rvs_cons (rv_tmp z) (rvs_cons (rv_tmp z) rvs_nil)) ?_
 exact ⟨_, v415, z, hI0, hst.keep1⟩
}
}
}
}

theorem session_Table_Last_ref {w0 w : World} {I : HL} {R : SP} {a0 : (Option session_Table)} {p0 : Value} {a1 : Int}  (hst : St w0 w I [objO at_session_Table p0 a0] R) {r : (Int)} (hm : session_Table_Last a0 a1 = some r) :
  Calls prog 16 #[p0, U6 a1] w fun e w' => e = .returned (.int .u64 r) ∧ St w0 w' I [objO at_session_Table p0 a0] R := by {
 rcases a0 with _ | o0
 {
 obtain ⟨rfl, hst'⟩ := objO_none hst
 clear hst
 have hst := hst'
 clear hst'
 dsimp only [session_Table_Last] at hm
 refine calls_start (args := [.pointer none, U6 a1]) func16 z ntmps16 (Nat.le_of_ble_eq_true z) ?_
 refine wp_seq (wrl (wv (.int .u64 (0:Int)) z z z (wl_nil (tn (wp_seq (wrl (wv (.pointer none) z z z (wv (.int .u64 a1) z z z ?_))))))))
 replace hst := hst.objO_nil at_session_Table
 obtain ⟨t553, ht554, hm⟩ := bind_some hm
 refine wc call23 [.pointer none, U6 a1] z z z ?_
 refine (session_Table_find_ref hst.to1 ht554).mono ?_
 rintro _ w555 ⟨rfl, hst⟩
 refine ⟨_, z, ?_⟩
 replace hst := hst.of1
 refine wv (.tuple #[I6 t553.1, .bool t553.2]) z z z (wv (.int .i64 t553.1) z z z (wv (.bool t553.2) z z z (wv (.int .i64 t553.1) z z z (wv (.bool t553.2) z z z (wl_nil (tn (wp_seq (wp_seq (wrl (wv (.bool t553.2) z z z (wv (.bool (!t553.2)) z z z (wl_nil (tn ?_)))))))))))))
 refine bsplit (!t553.2) (fun hc558 => ?_) (fun hc558 => ?_)
 {
 replace hm := bif_t hc558 hm
 refine wp_ift (cvb hc558) ?_
 refine wp_seq (wrl (wv (.int .u64 (0:Int)) z z z (wl_nil (tn (wp_ret (then_r ?_))))))
 replace hst := hst.objO_nil at_session_Table
 obtain rfl := some_inj hm
 refine post_ret (vs := [Zu]) results16 (rvs_cons (rv_tmp z) rvs_nil) ?_
 exact ⟨z, hst.keep1⟩
}
 {
 replace hm := bif_f hc558 hm
 refine wp_iff (cvb hc558) ?_
 refine wp_skip (tn (wp_seq (wrl ?_)))
 refine wv (.pointer none) z z z ?_
 cases hm
}
}
 {
 replace hst := objO_get hst
 dsimp only [session_Table_Last] at hm
 refine calls_start (args := [p0, U6 a1]) func16 z ntmps16 (Nat.le_of_ble_eq_true z) ?_
 refine wp_seq (wrl (wv (.int .u64 (0:Int)) z z z (wl_nil (tn (wp_seq (wrl (wv (p0) z z z (wv (.int .u64 a1) z z z ?_))))))))
 replace hst := objO_some hst
 obtain ⟨t559, ht560, hm⟩ := bind_some hm
 refine wc call23 [p0, U6 a1] z z z ?_
 refine (session_Table_find_ref hst.to1 ht560).mono ?_
 rintro _ w561 ⟨rfl, hst⟩
 refine ⟨_, z, ?_⟩
 replace hst := hst.of1
 replace hst := objO_get hst
 refine wv (.tuple #[I6 t559.1, .bool t559.2]) z z z (wv (.int .i64 t559.1) z z z (wv (.bool t559.2) z z z (wv (.int .i64 t559.1) z z z (wv (.bool t559.2) z z z (wl_nil (tn (wp_seq (wp_seq (wrl (wv (.bool t559.2) z z z (wv (.bool (!t559.2)) z z z (wl_nil (tn ?_)))))))))))))
 refine bsplit (!t559.2) (fun hc564 => ?_) (fun hc564 => ?_)
 {
 replace hm := bif_t hc564 hm
 refine wp_ift (cvb hc564) ?_
 refine wp_seq (wrl (wv (.int .u64 (0:Int)) z z z (wl_nil (tn (wp_ret (then_r ?_))))))
 replace hst := objO_some hst
 obtain rfl := some_inj hm
 refine post_ret (vs := [Zu]) results16 (rvs_cons (rv_tmp z) rvs_nil) ?_
 exact ⟨z, hst.keep1⟩
}
 {
 replace hm := bif_f hc564 hm
 refine wp_iff (cvb hc564) ?_
 refine wp_skip (tn (wp_seq (wrl ?_)))
 refine wv (p0) z z z ?_
 obtain ⟨b565, v566, rfl, hst'⟩ := at_session_Table_open hst
 clear hst
 have hst := hst'
 clear hst'
 refine wv (Pt b565 0) z z z (wv (Pt b565 0) z z (x_field z underlying56 z sizeOf54 z) (wv (v566) z z (x_load z isAgg54 (hst.bc0 z)) (wv (.int .i64 t559.1) z z z ?_)))
 obtain ⟨x568, hx569, hm⟩ := bind_some hm
 obtain ⟨h570, h571, hi572⟩ := geto_some hx569
 refine wv (.pointer (some (eAddr v566 (t559.1.toNat * 7 + 0)))) z z (x_index z z underlying54 sizeOf71 hst.sv1 h570 h571) (wv (.pointer (some (eAddr v566 (t559.1.toNat * 7 + 1)))) z z (x_field_e z underlying71 z sizeOf30 z) ?_)
 obtain ⟨cs573, hr574, hc575⟩ := hst.og1 hi572
 obtain ⟨v576, v579, rfl, f577, f580, -⟩ := hr574
 refine wv (.int .u64 x568.seq) z z (x_load z isAgg30 (hc575 1 _ z)) (wv (.int .u64 x568.seq) z z z (wl_nil (tn (wp_ret ?_))))
 replace hst := hst.pull1.pull1
 replace hst := at_session_Table_close (pv := Pt b565 0) (x := o0) hst z
 replace hst := objO_some hst
 obtain rfl := some_inj hm
 refine post_ret (vs := [U6 x568.seq]) results16 (rvs_cons (rv_tmp z) rvs_nil) ?_
 exact ⟨z, hst.keep1⟩
}
}
}

theorem ref11_SameGots_ref {w0 w : World} {I : HL} {R : SP} {a0 : (List api_Got)} {r0_0 : Value} {a1 : (List api_Got)} {r1_0 : Value} (f0_0 : Rd ty_api_Got R I r0_0 a0) (f1_0 : Rd ty_api_Got R I r1_0 a1) (hst : St w0 w I [] R) {r : (Bool)} (hm : ref11_SameGots a0 a1 = some r) :
  Calls prog 25 #[r0_0, r1_0] w fun e w' => e = .returned (.bool r) ∧ St w0 w' I [] R := by {
 unfold ref11_SameGots at hm
 refine calls_start (args := [r0_0, r1_0]) func25 z ntmps25 (Nat.le_of_ble_eq_true z) ?_
 refine wp_seq (wrl (wv (.bool false) z z z (wl_nil (tn (wp_seq (wp_seq (wrl (wv (r0_0) z z z (wv (.int .i64 ((a0).length : Int)) z z (x_len z underlying33 (rd_sliceV f0_0)) (wv (r1_0) z z z (wv (.int .i64 ((a1).length : Int)) z z (x_len z underlying33 (rd_sliceV f1_0)) (wv (.bool (((a0).length : Int) != ((a1).length : Int))) z z z (wl_nil (tn ?_))))))))))))))
 refine bsplit (((a0).length : Int) != ((a1).length : Int)) (fun hc671 => ?_) (fun hc671 => ?_)
 {
 replace hm := bif_t hc671 hm
 refine wp_ift (cvb hc671) ?_
 refine wp_seq (wrl (wv (.bool false) z z z (wl_nil (tn (wp_ret (then_r ?_))))))
 obtain rfl := some_inj hm
 refine post_ret (vs := [.bool false]) results25 (rvs_cons (rv_tmp z) rvs_nil) ?_
 exact ⟨z, hst.keep0⟩
}
 {
 replace hm := bif_f hc671 hm
 refine wp_iff (cvb hc671) ?_
 refine wp_skip (tn (wp_seq (wp_seq (wrl ?_))))
 refine wv (.int .i64 (0:Int)) z z z (wl_nil (tn (wp_block ?_)))
 obtain ⟨n725, hm⟩ := loopO_some hm
 refine wp_loop_n (fun n a w => ∃ (z723 : Int) (σ724 : Nat → Value), loopN (ref11_SameGots_l0 a0 a1) n z723 = some r ∧ a = Fr 43 (upd (upd (upd σ724 0 (r0_0)) 1 (r1_0)) 5 (.int .i64 z723)) ∧ St w0 w I [] R) n725 ⟨(0:Int), _, hm, (fu 0 r0_0 z (fu 1 r1_0 z (fu 5 (.int .i64 (0:Int)) z z))), hst⟩ ?_
 rintro n731 _ w726 ⟨z723, σ724, hm, rfl, hst⟩
 obtain ⟨n728, y729, rfl, hm, hx730⟩ := loopN_some hm
 dsimp only [ref11_SameGots_l0] at hm
 refine wp_seq (wp_seq (wrl (wv (.int .i64 z723) z z z (wv (r0_0) z z z (wv (.int .i64 ((a0).length : Int)) z z (x_len z underlying33 (rd_sliceV f0_0)) (wv (.bool (decide (z723 < ((a0).length : Int)))) z z z (wl_nil (tn ?_))))))))
 refine bsplit (decide (z723 < ((a0).length : Int))) (fun hc732 => ?_) (fun hc732 => ?_)
 {
 replace hm := bif_t hc732 hm
 refine wp_ift (cvb hc732) ?_
 refine wp_skip (tn (wp_seq (wp_block (wp_seq ?_))))
 refine wq_regionS hst Try.mixed (by kernel_rfl) ?_
 refine wq_run (v := r0_0) z z (fun w hst => z) ?_
 refine wq_run (v := .int .i64 z723) z z (fun w hst => z) ?_
 obtain ⟨x733, hx734, hm⟩ := bind_some hm
 obtain ⟨h735, h736, hi737⟩ := geto_some hx734
 refine wq_run (v := .pointer (some (eAddr r0_0 (z723.toNat * 2 + 0)))) z z (fun w hst => x_index z z underlying33 sizeOf59 (rd_sliceV f0_0) h735 h736) ?_
 refine wq_run (v := .pointer (some (eAddr r0_0 (z723.toNat * 2 + 0)))) z z (fun w hst => x_field_e z underlying59 z sizeOf4 z) ?_
 obtain ⟨cs738, hr739, hc740⟩ := Rd.getF f0_0 hi737
 obtain ⟨v741, rfl, f742, -⟩ := hr739
 refine wq_run (v := .bool x733.Has) z z (fun w hst => x_load z isAgg4 ((hc740 (HL.le.refl _) hst) 0 _ z)) ?_
 refine wq_run (v := r1_0) z z (fun w hst => z) ?_
 refine wq_run (v := .int .i64 z723) z z (fun w hst => z) ?_
 obtain ⟨x744, hx745, hm⟩ := bind_some hm
 obtain ⟨h746, h747, hi748⟩ := geto_some hx745
 refine wq_run (v := .pointer (some (eAddr r1_0 (z723.toNat * 2 + 0)))) z z (fun w hst => x_index z z underlying33 sizeOf59 (rd_sliceV f1_0) h746 h747) ?_
 refine wq_run (v := .pointer (some (eAddr r1_0 (z723.toNat * 2 + 0)))) z z (fun w hst => x_field_e z underlying59 z sizeOf4 z) ?_
 obtain ⟨cs749, hr750, hc751⟩ := Rd.getF f1_0 hi748
 obtain ⟨v752, rfl, f753, -⟩ := hr750
 refine wq_run (v := .bool x744.Has) z z (fun w hst => x_load z isAgg4 ((hc751 (HL.le.refl _) hst) 0 _ z)) ?_
 refine wq_run (v := .bool (!(x733.Has == x744.Has))) z z (fun w hst => by kernel_rfl) ?_
 refine wq_run (v := .bool (!(x733.Has == x744.Has))) z z (fun w hst => z) ?_
 refine bsplit (!(x733.Has == x744.Has)) (fun hc755 => ?_) (fun hc755 => ?_)
 {
 replace hm := bif_t hc755 hm
 refine wq_off ((wanted_eq z z z (cvb hc755)).trans z) z ?_
 refine wq_off ((wanted_eq z z z (cvb hc755)).trans z) z ?_
 refine wq_off ((wanted_eq z z z (cvb hc755)).trans z) z ?_
 refine wq_off ((wanted_eq z z z (cvb hc755)).trans z) z ?_
 refine wq_off ((wanted_eq z z z (cvb hc755)).trans z) z ?_
 refine wq_off ((wanted_eq z z z (cvb hc755)).trans z) z ?_
 refine wq_off ((wanted_eq z z z (cvb hc755)).trans z) z ?_
 refine wq_off ((wanted_eq z z z (cvb hc755)).trans z) z ?_
 refine wq_off ((wanted_eq z z z (cvb hc755)).trans z) z ?_
 refine wq_off ((wanted_eq z z z (cvb hc755)).trans z) z ?_
 refine wq_off ((wanted_eq z z z (cvb hc755)).trans z) z ?_
 refine wq_off ((wanted_eq z z z (cvb hc755)).trans z) z ?_
 refine wq_off ((wanted_eq z z z (cvb hc755)).trans z) z ?_
 refine wq_run (v := .bool true) z z (fun w hst => x_pick_t hc755 z z) ?_
 refine wq_nil ?_
 intro w hst
 refine tn ?_
 refine wp_ift z ?_
 refine wp_seq (wrl (wv (.bool false) z z z (wl_nil (tn (wp_ret (blk_r (then_r (then_r ?_))))))))
 replace hm := inr_up hm hx730
 refine blk_r (then_r ?_)
 obtain rfl := some_inj hm
 refine post_ret (vs := [.bool false]) results25 (rvs_cons (rv_tmp z) rvs_nil) ?_
 exact ⟨z, hst.keep0⟩
}
 {
 replace hm := bif_f hc755 hm
 refine wq_run (v := r0_0) ((wanted_eq z z z (cvb hc755)).trans z) z (fun w hst => z) ?_
 refine wq_run (v := .int .i64 z723) ((wanted_eq z z z (cvb hc755)).trans z) z (fun w hst => z) ?_
 refine wq_run (v := .pointer (some (eAddr r0_0 (z723.toNat * 2 + 0)))) ((wanted_eq z z z (cvb hc755)).trans z) z (fun w hst => x_index z z underlying33 sizeOf59 (rd_sliceV f0_0) h735 h736) ?_
 refine wq_run (v := .pointer (some (eAddr r0_0 (z723.toNat * 2 + 1)))) ((wanted_eq z z z (cvb hc755)).trans z) z (fun w hst => x_field_e z underlying59 z sizeOf22 z) ?_
 refine wq_run (v := v741) ((wanted_eq z z z (cvb hc755)).trans z) z (fun w hst => x_load z isAgg22 ((hc740 (HL.le.refl _) hst) 1 _ z)) ?_
 refine wq_run (v := .string (toStr x733.Val)) ((wanted_eq z z z (cvb hc755)).trans z) z (fun w hst => x_tostr underlying22 underlying9 underlying5 z (Src.of_rd hst f742 flat_int)) ?_
 refine wq_run (v := r1_0) ((wanted_eq z z z (cvb hc755)).trans z) z (fun w hst => z) ?_
 refine wq_run (v := .int .i64 z723) ((wanted_eq z z z (cvb hc755)).trans z) z (fun w hst => z) ?_
 refine wq_run (v := .pointer (some (eAddr r1_0 (z723.toNat * 2 + 0)))) ((wanted_eq z z z (cvb hc755)).trans z) z (fun w hst => x_index z z underlying33 sizeOf59 (rd_sliceV f1_0) h746 h747) ?_
 refine wq_run (v := .pointer (some (eAddr r1_0 (z723.toNat * 2 + 1)))) ((wanted_eq z z z (cvb hc755)).trans z) z (fun w hst => x_field_e z underlying59 z sizeOf22 z) ?_
 refine wq_run (v := v752) ((wanted_eq z z z (cvb hc755)).trans z) z (fun w hst => x_load z isAgg22 ((hc751 (HL.le.refl _) hst) 1 _ z)) ?_
 refine wq_run (v := .string (toStr x744.Val)) ((wanted_eq z z z (cvb hc755)).trans z) z (fun w hst => x_tostr underlying22 underlying9 underlying5 z (Src.of_rd hst f753 flat_int)) ?_
 refine wq_run (v := .bool (!(sEq (toStr x733.Val) (toStr x744.Val)))) ((wanted_eq z z z (cvb hc755)).trans z) z (fun w hst => by kernel_rfl) ?_
 refine wq_run (v := .bool (!(sEq (toStr x733.Val) (toStr x744.Val)))) z z (fun w hst => x_pick_f hc755 z z) ?_
 refine wq_nil ?_
 intro w hst
 refine tn ?_
 refine bsplit (!(sEq (toStr x733.Val) (toStr x744.Val))) (fun hc756 => ?_) (fun hc756 => ?_)
 {
 replace hm := bif_t hc756 hm
 refine wp_ift (cvb hc756) ?_
 refine wp_seq (wrl (wv (.bool false) z z z (wl_nil (tn (wp_ret (blk_r (then_r (then_r ?_))))))))
 replace hm := inr_up hm hx730
 refine blk_r (then_r ?_)
 obtain rfl := some_inj hm
 refine post_ret (vs := [.bool false]) results25 (rvs_cons (rv_tmp z) rvs_nil) ?_
 exact ⟨z, hst.keep0⟩
}
 {
 replace hm := bif_f hc756 hm
 refine wp_iff (cvb hc756) ?_
 refine wp_skip (blk_n (tn (wrl ?_)))
 refine wv (.int .i64 z723) z z z (wv (.int .i64 (i64.wrap (z723 + (1:Int)))) z z z (wv (.int .i64 (i64.wrap (z723 + (1:Int)))) z z z (wl_nil (tn ?_))))
 replace hst := hst.keep0
 obtain rfl := some_inj hm
 exact ⟨_, Nat.lt_succ_self _, (i64.wrap (z723 + (1:Int))), _, hx730, (fu 0 r0_0 z (fu 1 r1_0 z (fu 5 (.int .i64 (i64.wrap (z723 + (1:Int)))) z z))), hst⟩
}
}
}
 {
 replace hm := bif_f hc732 hm
 refine wp_iff (cvb hc732) ?_
 refine wp_exit (then_x (then_x ?_))
 replace hm := inr_up hm hx730
 refine blk_x (tn (wp_seq (wrl ?_)))
 refine wv (.bool true) z z z (wl_nil (tn (wp_ret ?_)))
 obtain rfl := some_inj hm
 refine post_ret (vs := [.bool true]) results25 (rvs_cons (rv_tmp z) rvs_nil) ?_
 exact ⟨z, hst.keep0⟩
}
}
}

theorem math_Signbit_ref {w0 w : World} {I : HL} {R : SP} {a0 : Nat}  (hst : St w0 w I [] R) {r : (Bool)} (hm : math_Signbit a0 = some r) :
  Calls prog 60 #[F6 a0] w fun e w' => e = .returned (.bool r) ∧ St w0 w' I [] R := by {
 unfold math_Signbit at hm
 refine calls_start (args := [F6 a0]) func60 z ntmps60 (Nat.le_of_ble_eq_true z) ?_
 refine wp_seq (wrl (wv (.bool false) z z z (wl_nil (tn (wp_seq (wrl (wv (.float .f64 a0) z z z (wv (.int .u64 (Int.ofNat a0)) z z (by kernel_rfl) (wv (.int .i64 (i64.wrap (Int.ofNat a0))) z z (by kernel_rfl) (wv (.bool (decide ((i64.wrap (Int.ofNat a0)) < (0:Int)))) z z z (wv (.bool (decide ((i64.wrap (Int.ofNat a0)) < (0:Int)))) z z z (wl_nil (tn (wp_ret ?_))))))))))))))
 obtain rfl := some_inj hm
 refine post_ret (vs := [.bool (decide ((i64.wrap (Int.ofNat a0)) < (0:Int)))]) results60 (rvs_cons (rv_tmp z) rvs_nil) ?_
 exact ⟨z, hst.keep0⟩
}

theorem ref01_Ahead_ref {w0 w : World} {I : HL} {R : SP} {a0 : Nat} {a1 : Nat}  (hst : St w0 w I [] R) {r : (Bool)} (hm : ref01_Ahead a0 a1 = some r) :
  Calls prog 55 #[F6 a0, F6 a1] w fun e w' => e = .returned (.bool r) ∧ St w0 w' I [] R := by {
 unfold ref01_Ahead at hm
 refine calls_start (args := [F6 a0, F6 a1]) func55 z ntmps55 (Nat.le_of_ble_eq_true z) ?_
 refine wp_seq (wrl (wv (.bool false) z z z (wl_nil (tn (wp_seq (wp_seq (wrl (wv (.float .f64 a0) z z z (wv (.float .f64 a0) z z z (wv (.bool (fNe a0 a0)) z z z (wl_nil (tn ?_))))))))))))
 refine bsplit (fNe a0 a0) (fun hc613 => ?_) (fun hc613 => ?_)
 {
 replace hm := bif_t hc613 hm
 refine wp_ift (cvb hc613) ?_
 refine wp_seq (wrl (wv (.bool false) z z z (wl_nil (tn (wp_ret (then_r ?_))))))
 obtain rfl := some_inj hm
 refine post_ret (vs := [.bool false]) results55 (rvs_cons (rv_tmp z) rvs_nil) ?_
 exact ⟨z, hst.keep0⟩
}
 {
 replace hm := bif_f hc613 hm
 refine wp_iff (cvb hc613) ?_
 refine wp_skip (tn (wp_seq (wp_seq (wrl ?_))))
 refine wv (.float .f64 a1) z z z (wv (.float .f64 a1) z z z (wv (.bool (fNe a1 a1)) z z z (wl_nil (tn ?_))))
 refine bsplit (fNe a1 a1) (fun hc614 => ?_) (fun hc614 => ?_)
 {
 replace hm := bif_t hc614 hm
 refine wp_ift (cvb hc614) ?_
 refine wp_seq (wrl (wv (.bool true) z z z (wl_nil (tn (wp_ret (then_r ?_))))))
 obtain rfl := some_inj hm
 refine post_ret (vs := [.bool true]) results55 (rvs_cons (rv_tmp z) rvs_nil) ?_
 exact ⟨z, hst.keep0⟩
}
 {
 replace hm := bif_f hc614 hm
 refine wp_iff (cvb hc614) ?_
 refine wp_skip (tn ?_)
 obtain ⟨y630, hm, hx631⟩ := joinO_some hm
 refine wp_cut (fun a w => ∃ (σ628 : Nat → Value), (ref01_Ahead_j0 a0 a1) () = some r ∧ a = Fr 27 (upd (upd σ628 0 (.float .f64 a0)) 1 (.float .f64 a1)) ∧ St w0 w I [] R) ?_ ?_
 {
 refine wp_seq (wrl (wv (.float .f64 a0) z z z (wv (.bool (fEq a0 (0:Nat))) z z z (wv (.bool (fEq a0 (0:Nat))) z z z ?_))))
 refine bsplit (fEq a0 (0:Nat)) (fun hc615 => ?_) (fun hc615 => ?_)
 {
 replace hm := bif_t hc615 hm
 refine wv (.float .f64 a1) ((wanted_eq z z z (cvb hc615)).trans z) z z (wv (.bool (fEq a1 (0:Nat))) ((wanted_eq z z z (cvb hc615)).trans z) z z (wv (.bool (fEq a1 (0:Nat))) z z (x_pick_t hc615 z z) (wl_nil (tn ?_))))
 refine bsplit (fEq a1 (0:Nat)) (fun hc616 => ?_) (fun hc616 => ?_)
 {
 replace hm := bif_t hc616 hm
 refine wp_ift (cvb hc616) ?_
 refine wp_seq (wrl (wv (.float .f64 a0) z z z ?_))
 obtain ⟨t617, ht618, hm⟩ := bind_some hm
 refine wc call60 [F6 a0] z z z ?_
 refine (math_Signbit_ref hst.to0 ht618).mono ?_
 rintro _ w619 ⟨rfl, hst⟩
 refine ⟨_, z, ?_⟩
 replace hst := hst.of0
 refine wv (.bool t617) z z z ?_
 refine bsplit t617 (fun hc622 => ?_) (fun hc622 => ?_)
 {
 replace hm := bif_t hc622 hm
 refine wv (.float .f64 a1) ((wanted_eq z z z (cvb hc622)).trans z) z z ?_
 obtain ⟨t623, ht624, hm⟩ := bind_some hm
 refine wl_call ((wanted_eq z z z (cvb hc622)).trans z) z (x_call call60 z (vs := [F6 a1]) z) ?_
 refine (math_Signbit_ref hst.to0 ht624).mono ?_
 rintro _ w625 ⟨rfl, hst⟩
 refine ⟨_, z, ?_⟩
 replace hst := hst.of0
 refine wv (.bool (!t623)) ((wanted_eq z z z (cvb hc622)).trans z) z z (wv (.bool (!t623)) z z (x_pick_t hc622 z z) (wv (.bool (!t623)) z z z (wl_nil (tn (wp_ret (then_r ?_))))))
 replace hm := inr_up hm hx631
 obtain rfl := some_inj hm
 refine post_ret (vs := [.bool (!t623)]) results55 (rvs_cons (rv_tmp z) rvs_nil) ?_
 exact ⟨z, hst.keep0⟩
}
 {
 replace hm := bif_f hc622 hm
 refine wo hc622 z z z z z z (wo hc622 z z z z z z (wo hc622 z z z z z z (wv (.bool false) z z (x_pick_f hc622 z z) (wv (.bool false) z z z (wl_nil (tn (wp_ret (then_r ?_))))))))
 replace hm := inr_up hm hx631
 obtain rfl := some_inj hm
 refine post_ret (vs := [.bool false]) results55 (rvs_cons (rv_tmp z) rvs_nil) ?_
 exact ⟨z, hst.keep0⟩
}
}
 {
 replace hm := bif_f hc616 hm
 refine wp_iff (cvb hc616) ?_
 refine wp_skip (tn ?_)
 replace hst := hst.keep0
 obtain rfl := some_inj hm
 exact ⟨_, hx631, (fu 0 (.float .f64 a0) z (fu 1 (.float .f64 a1) z z)), hst⟩
}
}
 {
 replace hm := bif_f hc615 hm
 refine wo hc615 z z z z z z (wo hc615 z z z z z z (wv (.bool false) z z (x_pick_f hc615 z z) (wl_nil (tn ?_))))
 refine wp_iff z ?_
 refine wp_skip (tn ?_)
 replace hst := hst.keep0
 obtain rfl := some_inj hm
 exact ⟨_, hx631, (fu 0 (.float .f64 a0) z (fu 1 (.float .f64 a1) z z)), hst⟩
}
}
 {
 clear hst
 rintro _ w632 ⟨σ628, hm, rfl, hst⟩
 dsimp only [ref01_Ahead_j0] at hm
 refine wp_seq (wrl (wv (.float .f64 a0) z z z (wv (.float .f64 a1) z z z (wv (.bool (fLt a0 a1)) z z z (wv (.bool (fLt a0 a1)) z z z (wl_nil (tn (wp_ret ?_))))))))
 obtain rfl := some_inj hm
 refine post_ret (vs := [.bool (fLt a0 a1)]) results55 (rvs_cons (rv_tmp z) rvs_nil) ?_
 exact ⟨z, hst.keep0⟩
}
}
}
}

theorem ref01_Same_ref {w0 w : World} {I : HL} {R : SP} {a0 : Nat} {a1 : Nat}  (hst : St w0 w I [] R) {r : (Bool)} (hm : ref01_Same a0 a1 = some r) :
  Calls prog 43 #[F6 a0, F6 a1] w fun e w' => e = .returned (.bool r) ∧ St w0 w' I [] R := by {
 unfold ref01_Same at hm
 refine calls_start (args := [F6 a0, F6 a1]) func43 z ntmps43 (Nat.le_of_ble_eq_true z) ?_
 refine wp_seq (wrl (wv (.bool false) z z z (wl_nil (tn (wp_seq (wrl (wv (.float .f64 a0) z z z (wv (.float .f64 a1) z z z ?_))))))))
 obtain ⟨t604, ht605, hm⟩ := bind_some hm
 refine wc call55 [F6 a0, F6 a1] z z z ?_
 refine (ref01_Ahead_ref hst.to0 ht605).mono ?_
 rintro _ w606 ⟨rfl, hst⟩
 refine ⟨_, z, ?_⟩
 replace hst := hst.of0
 refine wv (.bool (!t604)) z z z (wv (.bool (!t604)) z z z ?_)
 refine bsplit (!t604) (fun hc609 => ?_) (fun hc609 => ?_)
 {
 replace hm := bif_t hc609 hm
 refine wv (.float .f64 a1) ((wanted_eq z z z (cvb hc609)).trans z) z z (wv (.float .f64 a0) ((wanted_eq z z z (cvb hc609)).trans z) z z ?_)
 obtain ⟨t610, ht611, hm⟩ := bind_some hm
 refine wl_call ((wanted_eq z z z (cvb hc609)).trans z) z (x_call call55 z (vs := [F6 a1, F6 a0]) z) ?_
 refine (ref01_Ahead_ref hst.to0 ht611).mono ?_
 rintro _ w612 ⟨rfl, hst⟩
 refine ⟨_, z, ?_⟩
 replace hst := hst.of0
 refine wv (.bool (!t610)) ((wanted_eq z z z (cvb hc609)).trans z) z z (wv (.bool (!t610)) z z (x_pick_t hc609 z z) (wv (.bool (!t610)) z z z (wl_nil (tn (wp_ret ?_)))))
 obtain rfl := some_inj hm
 refine post_ret (vs := [.bool (!t610)]) results43 (rvs_cons (rv_tmp z) rvs_nil) ?_
 exact ⟨z, hst.keep0⟩
}
 {
 replace hm := bif_f hc609 hm
 refine wo hc609 z z z z z z (wo hc609 z z z z z z (wo hc609 z z z z z z (wo hc609 z z z z z z (wv (.bool false) z z (x_pick_f hc609 z z) (wv (.bool false) z z z (wl_nil (tn (wp_ret ?_))))))))
 obtain rfl := some_inj hm
 refine post_ret (vs := [.bool false]) results43 (rvs_cons (rv_tmp z) rvs_nil) ?_
 exact ⟨z, hst.keep0⟩
}
}

theorem ref11_SamePairs_ref {w0 w : World} {I : HL} {R : SP} {a0 : (List api_Pair)} {r0_0 : Value} {a1 : (List api_Pair)} {r1_0 : Value} (f0_0 : Rd ty_api_Pair R I r0_0 a0) (f1_0 : Rd ty_api_Pair R I r1_0 a1) (hst : St w0 w I [] R) {r : (Bool)} (hm : ref11_SamePairs a0 a1 = some r) :
  Calls prog 26 #[r0_0, r1_0] w fun e w' => e = .returned (.bool r) ∧ St w0 w' I [] R := by {
 unfold ref11_SamePairs at hm
 refine calls_start (args := [r0_0, r1_0]) func26 z ntmps26 (Nat.le_of_ble_eq_true z) ?_
 refine wp_seq (wrl (wv (.bool false) z z z (wl_nil (tn (wp_seq (wp_seq (wrl (wv (r0_0) z z z (wv (.int .i64 ((a0).length : Int)) z z (x_len z underlying60 (rd_sliceV f0_0)) (wv (r1_0) z z z (wv (.int .i64 ((a1).length : Int)) z z (x_len z underlying60 (rd_sliceV f1_0)) (wv (.bool (((a0).length : Int) != ((a1).length : Int))) z z z (wl_nil (tn ?_))))))))))))))
 refine bsplit (((a0).length : Int) != ((a1).length : Int)) (fun hc730 => ?_) (fun hc730 => ?_)
 {
 replace hm := bif_t hc730 hm
 refine wp_ift (cvb hc730) ?_
 refine wp_seq (wrl (wv (.bool false) z z z (wl_nil (tn (wp_ret (then_r ?_))))))
 obtain rfl := some_inj hm
 refine post_ret (vs := [.bool false]) results26 (rvs_cons (rv_tmp z) rvs_nil) ?_
 exact ⟨z, hst.keep0⟩
}
 {
 replace hm := bif_f hc730 hm
 refine wp_iff (cvb hc730) ?_
 refine wp_skip (tn (wp_seq (wp_seq (wrl ?_))))
 refine wv (.int .i64 (0:Int)) z z z (wl_nil (tn (wp_block ?_)))
 obtain ⟨n818, hm⟩ := loopO_some hm
 refine wp_loop_n (fun n a w => ∃ (z816 : Int) (σ817 : Nat → Value), loopN (ref11_SamePairs_l0 a0 a1) n z816 = some r ∧ a = Fr 44 (upd (upd (upd σ817 0 (r0_0)) 1 (r1_0)) 5 (.int .i64 z816)) ∧ St w0 w I [] R) n818 ⟨(0:Int), _, hm, (fu 0 r0_0 z (fu 1 r1_0 z (fu 5 (.int .i64 (0:Int)) z z))), hst⟩ ?_
 rintro n824 _ w819 ⟨z816, σ817, hm, rfl, hst⟩
 obtain ⟨n821, y822, rfl, hm, hx823⟩ := loopN_some hm
 dsimp only [ref11_SamePairs_l0] at hm
 refine wp_seq (wp_seq (wrl (wv (.int .i64 z816) z z z (wv (r0_0) z z z (wv (.int .i64 ((a0).length : Int)) z z (x_len z underlying60 (rd_sliceV f0_0)) (wv (.bool (decide (z816 < ((a0).length : Int)))) z z z (wl_nil (tn ?_))))))))
 refine bsplit (decide (z816 < ((a0).length : Int))) (fun hc825 => ?_) (fun hc825 => ?_)
 {
 replace hm := bif_t hc825 hm
 refine wp_ift (cvb hc825) ?_
 refine wp_skip (tn (wp_seq (wp_block (wp_seq ?_))))
 refine wp_region_St hst 27 [0, 1, 2, 3, 4, 5, 6, 7, 8, 9, 10, 11, 12, 13, 14, 15, 16, 17, 18, 19, 20, 21, 22, 23, 24, 25, 26] [0, 0, 3, 7, 15, 0, 0, 96, 224, 480, 1023, 2047, 4095, 8191, 8191, 32767, 65535, 131071, 262143, 8191, 8191, 1581055, 3678207, 7872511, 16261119, 33554431, 67108863] [] z (by kernel_rfl) (by kernel_rfl) Try.mixed (by kernel_rfl) ?_
 refine wsr (r0_0) 0 z z z (by kernel_rfl) (fun w hst => z) (wsr (.int .i64 z816) 1 z z z (by kernel_rfl) (fun w hst => z) ?_)
 obtain ⟨x826, hx827, hm⟩ := bind_some hm
 obtain ⟨h828, h829, hi830⟩ := geto_some hx827
 refine wsr (.pointer (some (eAddr r0_0 (z816.toNat * 2 + 0)))) 2 z z z (by kernel_rfl) (fun w hst => x_index z z underlying60 sizeOf64 (rd_sliceV f0_0) h828 h829) (wsr (.pointer (some (eAddr r0_0 (z816.toNat * 2 + 0)))) 3 z z z (by kernel_rfl) (fun w hst => x_field_e z underlying64 z sizeOf61 z) ?_)
 obtain ⟨cs831, hr832, hc833⟩ := Rd.getF f0_0 hi830
 obtain ⟨v834, rfl, f835, -⟩ := hr832
 refine wsr (.float .f64 x826.At) 4 z z z (by kernel_rfl) (fun w hst => x_load z isAgg61 ((hc833 (HL.le.refl _) hst) 0 _ z)) (wsr (r1_0) 5 z z z (by kernel_rfl) (fun w hst => z) (wsr (.int .i64 z816) 6 z z z (by kernel_rfl) (fun w hst => z) ?_))
 obtain ⟨x837, hx838, hm⟩ := bind_some hm
 obtain ⟨h839, h840, hi841⟩ := geto_some hx838
 refine wsr (.pointer (some (eAddr r1_0 (z816.toNat * 2 + 0)))) 7 z z z (by kernel_rfl) (fun w hst => x_index z z underlying60 sizeOf64 (rd_sliceV f1_0) h839 h840) (wsr (.pointer (some (eAddr r1_0 (z816.toNat * 2 + 0)))) 8 z z z (by kernel_rfl) (fun w hst => x_field_e z underlying64 z sizeOf61 z) ?_)
 obtain ⟨cs842, hr843, hc844⟩ := Rd.getF f1_0 hi841
 obtain ⟨v845, rfl, f846, -⟩ := hr843
 refine wsr (.float .f64 x837.At) 9 z z z (by kernel_rfl) (fun w hst => x_load z isAgg61 ((hc844 (HL.le.refl _) hst) 0 _ z)) ?_
 refine ws_e1 10 (by kernel_rfl) ?_
 refine nxe [11, 12, 13, 14, 15, 16, 17, 18, 19, 20, 21, 22, 23, 24, 25, 26] (by kernel_rfl) z z ?_
 clear hst
 intro w hst
 obtain ⟨t848, ht849, hm⟩ := bind_some hm
 refine wec call43 [F6 x826.At, F6 x837.At] z z ?_
 refine (ref01_Same_ref hst.to0 ht849).mono ?_
 rintro _ w850 ⟨rfl, hst⟩
 refine ⟨_, z, ?_⟩
 replace hst := hst.of0
 refine ws_next (pend' := []) hst (by kernel_rfl) pk_nil ?_
 refine wsr (.bool (!t848)) 11 z z z (by kernel_rfl) (fun w hst => z) (wsr (.bool (!t848)) 12 z z z (by kernel_rfl) (fun w hst => z) ?_)
 refine bsplit (!t848) (fun hc853 => ?_) (fun hc853 => ?_)
 {
 replace hm := bif_t hc853 hm
 refine ws_q (v := undef) 13 [14, 15, 16, 17, 18, 19, 20, 21, 22, 23, 24, 25, 26] (by kernel_rfl) z z (yi_off ((wanted_eq z z z (cvb hc853)).trans z)) (ws_q (v := undef) 14 [15, 16, 17, 18, 19, 20, 21, 22, 23, 24, 25, 26] (by kernel_rfl) z z (yi_off ((wanted_eq z z z (cvb hc853)).trans z)) (ws_q (v := undef) 15 [16, 17, 18, 19, 20, 21, 22, 23, 24, 25, 26] (by kernel_rfl) z z (yi_off ((wanted_eq z z z (cvb hc853)).trans z)) (ws_q (v := undef) 16 [17, 18, 19, 20, 21, 22, 23, 24, 25, 26] (by kernel_rfl) z z (yi_off ((wanted_eq z z z (cvb hc853)).trans z)) (ws_q (v := undef) 17 [18, 19, 20, 21, 22, 23, 24, 25, 26] (by kernel_rfl) z z (yi_off ((wanted_eq z z z (cvb hc853)).trans z)) (ws_q (v := undef) 18 [19, 20, 21, 22, 23, 24, 25, 26] (by kernel_rfl) z z (yi_off ((wanted_eq z z z (cvb hc853)).trans z)) (ws_q (v := undef) 19 [20, 21, 22, 23, 24, 25, 26] (by kernel_rfl) z z (yi_off ((wanted_eq z z z (cvb hc853)).trans z)) (ws_q (v := undef) 20 [21, 22, 23, 24, 25, 26] (by kernel_rfl) z z (yi_off ((wanted_eq z z z (cvb hc853)).trans z)) (ws_q (v := undef) 21 [22, 23, 24, 25, 26] (by kernel_rfl) z z (yi_off ((wanted_eq z z z (cvb hc853)).trans z)) (ws_q (v := undef) 22 [23, 24, 25, 26] (by kernel_rfl) z z (yi_off ((wanted_eq z z z (cvb hc853)).trans z)) (ws_q (v := undef) 23 [24, 25, 26] (by kernel_rfl) z z (yi_off ((wanted_eq z z z (cvb hc853)).trans z)) (ws_q (v := undef) 24 [25, 26] (by kernel_rfl) z z (yi_off ((wanted_eq z z z (cvb hc853)).trans z)) (ws_q (v := undef) 25 [26] (by kernel_rfl) z z (yi_off ((wanted_eq z z z (cvb hc853)).trans z)) ?_))))))))))))
 refine wsr (.bool true) 26 z z z (by kernel_rfl) (fun w hst => x_pick_t hc853 z z) ?_
 refine ws_nil ?_
 intro w hst
 refine tn ?_
 refine wp_ift z ?_
 refine wp_seq (wrl (wv (.bool false) z z z (wl_nil (tn (wp_ret (blk_r (then_r (then_r ?_))))))))
 replace hm := inr_up hm hx823
 refine blk_r (then_r ?_)
 obtain rfl := some_inj hm
 refine post_ret (vs := [.bool false]) results26 (rvs_cons (rv_tmp z) rvs_nil) ?_
 exact ⟨z, hst.keep0⟩
}
 {
 replace hm := bif_f hc853 hm
 refine ws_q (v := r0_0) 13 [14, 15, 16, 17, 18, 19, 20, 21, 22, 23, 24, 25, 26] (by kernel_rfl) z z (yi_run ((wanted_eq z z z (cvb hc853)).trans z) (fun w hst => z)) (ws_q (v := .int .i64 z816) 14 [15, 16, 17, 18, 19, 20, 21, 22, 23, 24, 25, 26] (by kernel_rfl) z z (yi_run ((wanted_eq z z z (cvb hc853)).trans z) (fun w hst => z)) (ws_q (v := .pointer (some (eAddr r0_0 (z816.toNat * 2 + 0)))) 15 [16, 17, 18, 19, 20, 21, 22, 23, 24, 25, 26] (by kernel_rfl) z z (yi_run ((wanted_eq z z z (cvb hc853)).trans z) (fun w hst => x_index z z underlying60 sizeOf64 (rd_sliceV f0_0) h828 h829)) (ws_q (v := .pointer (some (eAddr r0_0 (z816.toNat * 2 + 1)))) 16 [17, 18, 19, 20, 21, 22, 23, 24, 25, 26] (by kernel_rfl) z z (yi_run ((wanted_eq z z z (cvb hc853)).trans z) (fun w hst => x_field_e z underlying64 z sizeOf22 z)) ?_)))
 obtain ⟨cs854, hr855, hc856⟩ := Rd.getF f0_0 hi830
 obtain ⟨v857, rfl, f858, -⟩ := hr855
 refine ws_q (v := v857) 17 [18, 19, 20, 21, 22, 23, 24, 25, 26] (by kernel_rfl) z z (yi_run ((wanted_eq z z z (cvb hc853)).trans z) (fun w hst => x_load z isAgg22 ((hc856 (HL.le.refl _) hst) 1 _ z))) (ws_q (v := .string (toStr x826.Val)) 18 [19, 20, 21, 22, 23, 24, 25, 26] (by kernel_rfl) z z (yi_run ((wanted_eq z z z (cvb hc853)).trans z) (fun w hst => x_tostr underlying22 underlying9 underlying5 z (Src.of_rd hst f858 flat_int))) (ws_q (v := r1_0) 19 [20, 21, 22, 23, 24, 25, 26] (by kernel_rfl) z z (yi_run ((wanted_eq z z z (cvb hc853)).trans z) (fun w hst => z)) (ws_q (v := .int .i64 z816) 20 [21, 22, 23, 24, 25, 26] (by kernel_rfl) z z (yi_run ((wanted_eq z z z (cvb hc853)).trans z) (fun w hst => z)) (ws_q (v := .pointer (some (eAddr r1_0 (z816.toNat * 2 + 0)))) 21 [22, 23, 24, 25, 26] (by kernel_rfl) z z (yi_run ((wanted_eq z z z (cvb hc853)).trans z) (fun w hst => x_index z z underlying60 sizeOf64 (rd_sliceV f1_0) h839 h840)) (ws_q (v := .pointer (some (eAddr r1_0 (z816.toNat * 2 + 1)))) 22 [23, 24, 25, 26] (by kernel_rfl) z z (yi_run ((wanted_eq z z z (cvb hc853)).trans z) (fun w hst => x_field_e z underlying64 z sizeOf22 z)) ?_)))))
 obtain ⟨cs860, hr861, hc862⟩ := Rd.getF f1_0 hi841
 obtain ⟨v863, rfl, f864, -⟩ := hr861
 refine ws_q (v := v863) 23 [24, 25, 26] (by kernel_rfl) z z (yi_run ((wanted_eq z z z (cvb hc853)).trans z) (fun w hst => x_load z isAgg22 ((hc862 (HL.le.refl _) hst) 1 _ z))) (ws_q (v := .string (toStr x837.Val)) 24 [25, 26] (by kernel_rfl) z z (yi_run ((wanted_eq z z z (cvb hc853)).trans z) (fun w hst => x_tostr underlying22 underlying9 underlying5 z (Src.of_rd hst f864 flat_int))) (ws_q (v := .bool (!(sEq (toStr x826.Val) (toStr x837.Val)))) 25 [26] (by kernel_rfl) z z (yi_run ((wanted_eq z z z (cvb hc853)).trans z) (fun w hst => by kernel_rfl)) (wsr (.bool (!(sEq (toStr x826.Val) (toStr x837.Val)))) 26 z z z (by kernel_rfl) (fun w hst => x_pick_f hc853 z z) ?_)))
 refine ws_nil ?_
 intro w hst
 refine tn ?_
 refine bsplit (!(sEq (toStr x826.Val) (toStr x837.Val))) (fun hc866 => ?_) (fun hc866 => ?_)
 {
 replace hm := bif_t hc866 hm
 refine wp_ift (cvb hc866) ?_
 refine wp_seq (wrl (wv (.bool false) z z z (wl_nil (tn (wp_ret (blk_r (then_r (then_r ?_))))))))
 replace hm := inr_up hm hx823
 refine blk_r (then_r ?_)
 obtain rfl := some_inj hm
 refine post_ret (vs := [.bool false]) results26 (rvs_cons (rv_tmp z) rvs_nil) ?_
 exact ⟨z, hst.keep0⟩
}
 {
 replace hm := bif_f hc866 hm
 refine wp_iff (cvb hc866) ?_
 refine wp_skip (blk_n (tn (wrl ?_)))
 refine wv (.int .i64 z816) z z z (wv (.int .i64 (i64.wrap (z816 + (1:Int)))) z z z (wv (.int .i64 (i64.wrap (z816 + (1:Int)))) z z z (wl_nil (tn ?_))))
 replace hst := hst.keep0
 obtain rfl := some_inj hm
 exact ⟨_, Nat.lt_succ_self _, (i64.wrap (z816 + (1:Int))), _, hx823, (fu 0 r0_0 z (fu 1 r1_0 z (fu 5 (.int .i64 (i64.wrap (z816 + (1:Int)))) z z))), hst⟩
}
}
}
 {
 replace hm := bif_f hc825 hm
 refine wp_iff (cvb hc825) ?_
 refine wp_exit (then_x (then_x ?_))
 replace hm := inr_up hm hx823
 refine blk_x (tn (wp_seq (wrl ?_)))
 refine wv (.bool true) z z z (wl_nil (tn (wp_ret ?_)))
 obtain rfl := some_inj hm
 refine post_ret (vs := [.bool true]) results26 (rvs_cons (rv_tmp z) rvs_nil) ?_
 exact ⟨z, hst.keep0⟩
}
}
}

theorem ref11_SameReply_ref {w0 w : World} {I : HL} {R : SP} {a0 : api_Reply} {r0_0 : Value} {r0_1 : Value} {a1 : api_Reply} {r1_0 : Value} {r1_1 : Value} (f0_0 : Rd ty_api_Got R I r0_0 a0.Gots) (f0_1 : Rd (tySl ty_api_Pair) R I r0_1 a0.Scans) (f1_0 : Rd ty_api_Got R I r1_0 a1.Gots) (f1_1 : Rd (tySl ty_api_Pair) R I r1_1 a1.Scans) (hst : St w0 w I [] R) {r : (Bool)} (hm : ref11_SameReply a0 a1 = some r) :
  Calls prog 17 #[.agg #[I6 a0.E, U6 a0.Epoch, U6 a0.Index, r0_0, r0_1], .agg #[I6 a1.E, U6 a1.Epoch, U6 a1.Index, r1_0, r1_1]] w fun e w' => e = .returned (.bool r) ∧ St w0 w' I [] R := by {
 unfold ref11_SameReply at hm
 refine calls_start (args := [.agg #[I6 a0.E, U6 a0.Epoch, U6 a0.Index, r0_0, r0_1], .agg #[I6 a1.E, U6 a1.Epoch, U6 a1.Index, r1_0, r1_1]]) func17 z ntmps17 (Nat.le_of_ble_eq_true z) ?_
 refine wp_seq (wrl ?_)
 obtain ⟨b689, w690, ew691, eb692, hst⟩ := hst.box [I6 a0.E, U6 a0.Epoch, U6 a0.Index, r0_0, r0_1] 36
 refine wl_run (v := Pt b689 0) (w' := w690) z z (x_al (by kernel_rfl) ew691 eb692) ?_
 obtain ⟨b694, w695, ew696, eb697, hst⟩ := hst.box [I6 a1.E, U6 a1.Epoch, U6 a1.Index, r1_0, r1_1] 36
 refine wl_run (v := Pt b694 0) (w' := w695) z z (x_al (by kernel_rfl) ew696 eb697) ?_
 refine wv (.bool false) z z z (wl_nil (tn (wp_seq (wp_seq (wrl (wv (Pt b689 0) z z (x_field z underlying36 z sizeOf32 z) (wv (.int .i64 a0.E) z z (x_load z isAgg32 (hst.bc1 z)) (wv (Pt b694 0) z z (x_field z underlying36 z sizeOf32 z) (wv (.int .i64 a1.E) z z (x_load z isAgg32 (hst.bc0 z)) (wv (.bool (a0.E != a1.E)) z z z (wv (.bool (a0.E != a1.E)) z z z ?_)))))))))))
 refine bsplit (a0.E != a1.E) (fun hc699 => ?_) (fun hc699 => ?_)
 {
 replace hm := bif_t hc699 hm
 refine wo hc699 z z z z z z (wo hc699 z z z z z z (wo hc699 z z z z z z (wo hc699 z z z z z z (wo hc699 z z z z z z (wv (.bool true) z z (x_pick_t hc699 z z) (wv (.bool true) z z z (wz z z z z z z (wz z z z z z z (wz z z z z z z (wz z z z z z z (wz z z z z z z (wv (.bool true) z z (x_pick_t z z z) ?_))))))))))))
 refine wv (.bool true) z z z (wz z z z z z z (wz z z z z z z (wz z z z z z z (wz z z z z z z (wz z z z z z z (wz z z z z z z (wv (.bool true) z z (x_pick_t z z z) (wv (.bool true) z z z (wz z z z z z z (wz z z z z z z (wz z z z z z z (wz z z z z z z ?_))))))))))))
 refine wz z z z z z z (wz z z z z z z (wz z z z z z z (wv (.bool true) z z (x_pick_t z z z) (wl_nil (tn ?_)))))
 refine wp_ift z ?_
 refine wp_seq (wrl (wv (.bool false) z z z (wl_nil (tn (wp_ret (then_r ?_))))))
 obtain rfl := some_inj hm
 refine post_ret (vs := [.bool false]) results17 (rvs_cons (rv_tmp z) rvs_nil) ?_
 exact ⟨z, hst.keep0⟩
}
 {
 replace hm := bif_f hc699 hm
 refine wv (Pt b689 1) ((wanted_eq z z z (cvb hc699)).trans z) z (x_field z underlying36 z sizeOf30 z) (wv (.int .u64 a0.Epoch) ((wanted_eq z z z (cvb hc699)).trans z) z (x_load z isAgg30 (hst.bc1 z)) (wv (Pt b694 1) ((wanted_eq z z z (cvb hc699)).trans z) z (x_field z underlying36 z sizeOf30 z) (wv (.int .u64 a1.Epoch) ((wanted_eq z z z (cvb hc699)).trans z) z (x_load z isAgg30 (hst.bc0 z)) (wv (.bool (a0.Epoch != a1.Epoch)) ((wanted_eq z z z (cvb hc699)).trans z) z z (wv (.bool (a0.Epoch != a1.Epoch)) z z (x_pick_f hc699 z z) (wv (.bool (a0.Epoch != a1.Epoch)) z z z ?_))))))
 refine bsplit (a0.Epoch != a1.Epoch) (fun hc700 => ?_) (fun hc700 => ?_)
 {
 replace hm := bif_t hc700 hm
 refine wo hc700 z z z z z z (wo hc700 z z z z z z (wo hc700 z z z z z z (wo hc700 z z z z z z (wo hc700 z z z z z z (wv (.bool true) z z (x_pick_t hc700 z z) (wv (.bool true) z z z (wz z z z z z z (wz z z z z z z (wz z z z z z z (wz z z z z z z (wz z z z z z z (wz z z z z z z ?_))))))))))))
 refine wv (.bool true) z z (x_pick_t z z z) (wv (.bool true) z z z (wz z z z z z z (wz z z z z z z (wz z z z z z z (wz z z z z z z (wz z z z z z z (wz z z z z z z (wz z z z z z z (wv (.bool true) z z (x_pick_t z z z) (wl_nil (tn ?_)))))))))))
 refine wp_ift z ?_
 refine wp_seq (wrl (wv (.bool false) z z z (wl_nil (tn (wp_ret (then_r ?_))))))
 obtain rfl := some_inj hm
 refine post_ret (vs := [.bool false]) results17 (rvs_cons (rv_tmp z) rvs_nil) ?_
 exact ⟨z, hst.keep0⟩
}
 {
 replace hm := bif_f hc700 hm
 refine wv (Pt b689 2) ((wanted_eq z z z (cvb hc700)).trans z) z (x_field z underlying36 z sizeOf30 z) (wv (.int .u64 a0.Index) ((wanted_eq z z z (cvb hc700)).trans z) z (x_load z isAgg30 (hst.bc1 z)) (wv (Pt b694 2) ((wanted_eq z z z (cvb hc700)).trans z) z (x_field z underlying36 z sizeOf30 z) (wv (.int .u64 a1.Index) ((wanted_eq z z z (cvb hc700)).trans z) z (x_load z isAgg30 (hst.bc0 z)) (wv (.bool (a0.Index != a1.Index)) ((wanted_eq z z z (cvb hc700)).trans z) z z (wv (.bool (a0.Index != a1.Index)) z z (x_pick_f hc700 z z) (wv (.bool (a0.Index != a1.Index)) z z z ?_))))))
 refine bsplit (a0.Index != a1.Index) (fun hc701 => ?_) (fun hc701 => ?_)
 {
 replace hm := bif_t hc701 hm
 refine wo hc701 z z z z z z (wo hc701 z z z z z z (wo hc701 z z z z z z (wo hc701 z z z z z z (wo hc701 z z z z z z (wo hc701 z z z z z z (wv (.bool true) z z (x_pick_t hc701 z z) (wv (.bool true) z z z (wz z z z z z z (wz z z z z z z (wz z z z z z z (wz z z z z z z (wz z z z z z z ?_))))))))))))
 refine wz z z z z z z (wz z z z z z z (wv (.bool true) z z (x_pick_t z z z) (wl_nil (tn ?_))))
 refine wp_ift z ?_
 refine wp_seq (wrl (wv (.bool false) z z z (wl_nil (tn (wp_ret (then_r ?_))))))
 obtain rfl := some_inj hm
 refine post_ret (vs := [.bool false]) results17 (rvs_cons (rv_tmp z) rvs_nil) ?_
 exact ⟨z, hst.keep0⟩
}
 {
 replace hm := bif_f hc701 hm
 refine wv (Pt b689 3) ((wanted_eq z z z (cvb hc701)).trans z) z (x_field z underlying36 z sizeOf33 z) (wv (r0_0) ((wanted_eq z z z (cvb hc701)).trans z) z (x_load z isAgg33 (hst.bc1 z)) (wv (Pt b694 3) ((wanted_eq z z z (cvb hc701)).trans z) z (x_field z underlying36 z sizeOf33 z) (wv (r1_0) ((wanted_eq z z z (cvb hc701)).trans z) z (x_load z isAgg33 (hst.bc0 z)) ?_)))
 obtain ⟨t702, ht703, hm⟩ := bind_some hm
 refine wl_call ((wanted_eq z z z (cvb hc701)).trans z) z (x_call call25 z (vs := [r0_0, r1_0]) z) ?_
 refine (ref11_SameGots_ref (f0_0.mono (rd_weak _)) (f1_0.mono (rd_weak _)) hst.to0 ht703).mono ?_
 rintro _ w704 ⟨rfl, hst⟩
 refine ⟨_, z, ?_⟩
 replace hst := hst.of0
 refine wv (.bool (!t702)) ((wanted_eq z z z (cvb hc701)).trans z) z z (wv (.bool (!t702)) z z (x_pick_f hc701 z z) (wv (.bool (!t702)) z z z ?_))
 refine bsplit (!t702) (fun hc707 => ?_) (fun hc707 => ?_)
 {
 replace hm := bif_t hc707 hm
 refine wo hc707 z z z z z z (wo hc707 z z z z z z (wo hc707 z z z z z z (wo hc707 z z z z z z (wo hc707 z z z z z z (wo hc707 z z z z z z (wo hc707 z z z z z z (wv (.bool true) z z (x_pick_t hc707 z z) (wl_nil (tn ?_)))))))))
 refine wp_ift z ?_
 refine wp_seq (wrl (wv (.bool false) z z z (wl_nil (tn (wp_ret (then_r ?_))))))
 obtain rfl := some_inj hm
 refine post_ret (vs := [.bool false]) results17 (rvs_cons (rv_tmp z) rvs_nil) ?_
 exact ⟨z, hst.keep0⟩
}
 {
 replace hm := bif_f hc707 hm
 refine wv (Pt b689 4) ((wanted_eq z z z (cvb hc707)).trans z) z (x_field z underlying36 z sizeOf34 z) (wv (r0_1) ((wanted_eq z z z (cvb hc707)).trans z) z (x_load z isAgg34 (hst.bc1 z)) (wv (.int .i64 ((a0.Scans).length : Int)) ((wanted_eq z z z (cvb hc707)).trans z) z (x_len z underlying34 (rd_sliceV f0_1)) (wv (Pt b694 4) ((wanted_eq z z z (cvb hc707)).trans z) z (x_field z underlying36 z sizeOf34 z) (wv (r1_1) ((wanted_eq z z z (cvb hc707)).trans z) z (x_load z isAgg34 (hst.bc0 z)) (wv (.int .i64 ((a1.Scans).length : Int)) ((wanted_eq z z z (cvb hc707)).trans z) z (x_len z underlying34 (rd_sliceV f1_1)) (wv (.bool (((a0.Scans).length : Int) != ((a1.Scans).length : Int))) ((wanted_eq z z z (cvb hc707)).trans z) z z (wv (.bool (((a0.Scans).length : Int) != ((a1.Scans).length : Int))) z z (x_pick_f hc707 z z) (wl_nil (tn ?_)))))))))
 refine bsplit (((a0.Scans).length : Int) != ((a1.Scans).length : Int)) (fun hc708 => ?_) (fun hc708 => ?_)
 {
 replace hm := bif_t hc708 hm
 refine wp_ift (cvb hc708) ?_
 refine wp_seq (wrl (wv (.bool false) z z z (wl_nil (tn (wp_ret (then_r ?_))))))
 obtain rfl := some_inj hm
 refine post_ret (vs := [.bool false]) results17 (rvs_cons (rv_tmp z) rvs_nil) ?_
 exact ⟨z, hst.keep0⟩
}
 {
 replace hm := bif_f hc708 hm
 refine wp_iff (cvb hc708) ?_
 refine wp_skip (tn (wp_seq (wp_seq (wrl ?_))))
 refine wv (.int .i64 (0:Int)) z z z (wl_nil (tn (wp_block ?_)))
 obtain ⟨n770, hm⟩ := loopO_some hm
 refine wp_loop_n (fun n a w => ∃ (z768 : Int) (σ769 : Nat → Value), loopN (ref11_SameReply_l0 a0 a1) n z768 = some r ∧ a = Fr 61 (upd (upd (upd σ769 2 (Pt b689 0)) 3 (Pt b694 0)) 5 (.int .i64 z768)) ∧ St w0 w I [cells b694 [I6 a1.E, U6 a1.Epoch, U6 a1.Index, r1_0, r1_1], cells b689 [I6 a0.E, U6 a0.Epoch, U6 a0.Index, r0_0, r0_1]] R) n770 ⟨(0:Int), _, hm, (fu 2 (Pt b689 0) z (fu 3 (Pt b694 0) z (fu 5 (.int .i64 (0:Int)) z z))), hst⟩ ?_
 rintro n776 _ w771 ⟨z768, σ769, hm, rfl, hst⟩
 obtain ⟨n773, y774, rfl, hm, hx775⟩ := loopN_some hm
 dsimp only [ref11_SameReply_l0] at hm
 refine wp_seq (wp_seq (wrl (wv (.int .i64 z768) z z z (wv (Pt b689 4) z z (x_field z underlying36 z sizeOf34 z) (wv (r0_1) z z (x_load z isAgg34 (hst.bc1 z)) (wv (.int .i64 ((a0.Scans).length : Int)) z z (x_len z underlying34 (rd_sliceV f0_1)) (wv (.bool (decide (z768 < ((a0.Scans).length : Int)))) z z z (wl_nil (tn ?_)))))))))
 refine bsplit (decide (z768 < ((a0.Scans).length : Int))) (fun hc777 => ?_) (fun hc777 => ?_)
 {
 replace hm := bif_t hc777 hm
 refine wp_ift (cvb hc777) ?_
 refine wp_skip (tn (wp_seq (wp_block (wp_seq ?_))))
 refine wp_region_St hst 12 [0, 1, 2, 3, 4, 5, 6, 7, 8, 9, 10, 11] [0, 1, 0, 7, 15, 0, 32, 0, 224, 480, 1023, 2047] [] z (by kernel_rfl) (by kernel_rfl) Try.mixed (by kernel_rfl) ?_
 refine wsr (Pt b689 4) 0 z z z (by kernel_rfl) (fun w hst => x_field z underlying36 z sizeOf34 z) (wsr (r0_1) 1 z z z (by kernel_rfl) (fun w hst => x_load z isAgg34 (hst.bc1 z)) (wsr (.int .i64 z768) 2 z z z (by kernel_rfl) (fun w hst => z) ?_))
 obtain ⟨x778, hx779, hm⟩ := bind_some hm
 obtain ⟨h780, h781, hi782⟩ := geto_some hx779
 refine wsr (.pointer (some (eAddr r0_1 (z768.toNat * 1 + 0)))) 3 z z z (by kernel_rfl) (fun w hst => x_index z z underlying34 sizeOf60 (rd_sliceV f0_1) h780 h781) ?_
 obtain ⟨cs783, hr784, hc785⟩ := Rd.getF f0_1 hi782
 obtain ⟨v786, rfl, f787, -⟩ := hr784
 refine wsr (v786) 4 z z z (by kernel_rfl) (fun w hst => x_load z isAgg60 ((hc785 (HL.le.refl _) hst) 0 _ z)) (wsr (Pt b694 4) 5 z z z (by kernel_rfl) (fun w hst => x_field z underlying36 z sizeOf34 z) (wsr (r1_1) 6 z z z (by kernel_rfl) (fun w hst => x_load z isAgg34 (hst.bc0 z)) (wsr (.int .i64 z768) 7 z z z (by kernel_rfl) (fun w hst => z) ?_)))
 obtain ⟨x789, hx790, hm⟩ := bind_some hm
 obtain ⟨h791, h792, hi793⟩ := geto_some hx790
 refine wsr (.pointer (some (eAddr r1_1 (z768.toNat * 1 + 0)))) 8 z z z (by kernel_rfl) (fun w hst => x_index z z underlying34 sizeOf60 (rd_sliceV f1_1) h791 h792) ?_
 obtain ⟨cs794, hr795, hc796⟩ := Rd.getF f1_1 hi793
 obtain ⟨v797, rfl, f798, -⟩ := hr795
 refine wsr (v797) 9 z z z (by kernel_rfl) (fun w hst => x_load z isAgg60 ((hc796 (HL.le.refl _) hst) 0 _ z)) ?_
 refine ws_e1 10 (by kernel_rfl) ?_
 refine nxe [11] (by kernel_rfl) z z ?_
 clear hst
 intro w hst
 obtain ⟨t800, ht801, hm⟩ := bind_some hm
 refine wec call26 [v786, v797] z z ?_
 refine (ref11_SamePairs_ref (f787.mono (rd_weak _)) (f798.mono (rd_weak _)) hst.to0 ht801).mono ?_
 rintro _ w802 ⟨rfl, hst⟩
 refine ⟨_, z, ?_⟩
 replace hst := hst.of0
 refine ws_next (pend' := []) hst (by kernel_rfl) pk_nil ?_
 refine wsr (.bool (!t800)) 11 z z z (by kernel_rfl) (fun w hst => z) ?_
 refine ws_nil ?_
 intro w hst
 refine tn ?_
 refine bsplit (!t800) (fun hc805 => ?_) (fun hc805 => ?_)
 {
 replace hm := bif_t hc805 hm
 refine wp_ift (cvb hc805) ?_
 refine wp_seq (wrl (wv (.bool false) z z z (wl_nil (tn (wp_ret (blk_r (then_r (then_r ?_))))))))
 replace hm := inr_up hm hx775
 refine blk_r (then_r ?_)
 obtain rfl := some_inj hm
 refine post_ret (vs := [.bool false]) results17 (rvs_cons (rv_tmp z) rvs_nil) ?_
 exact ⟨z, hst.keep0⟩
}
 {
 replace hm := bif_f hc805 hm
 refine wp_iff (cvb hc805) ?_
 refine wp_skip (blk_n (tn (wrl ?_)))
 refine wv (.int .i64 z768) z z z (wv (.int .i64 (i64.wrap (z768 + (1:Int)))) z z z (wv (.int .i64 (i64.wrap (z768 + (1:Int)))) z z z (wl_nil (tn ?_))))
 replace hst := hst.pull1.pull1.keep2
 obtain rfl := some_inj hm
 exact ⟨_, Nat.lt_succ_self _, (i64.wrap (z768 + (1:Int))), _, hx775, (fu 2 (Pt b689 0) z (fu 3 (Pt b694 0) z (fu 5 (.int .i64 (i64.wrap (z768 + (1:Int)))) z z))), hst⟩
}
}
 {
 replace hm := bif_f hc777 hm
 refine wp_iff (cvb hc777) ?_
 refine wp_exit (then_x (then_x ?_))
 replace hm := inr_up hm hx775
 refine blk_x (tn (wp_seq (wrl ?_)))
 refine wv (.bool true) z z z (wl_nil (tn (wp_ret ?_)))
 obtain rfl := some_inj hm
 refine post_ret (vs := [.bool true]) results17 (rvs_cons (rv_tmp z) rvs_nil) ?_
 exact ⟨z, hst.keep0⟩
}
}
}
}
}
}
}

theorem law14_told_ref {w0 w : World} {I : HL} {R : SP} {a0 : (Option session_Table)} {p0 : Value} {a1 : (List ref11_Answer)} {r1_0 : Value} (f1_0 : Ro ty_ref11_Answer I r1_0 a1) (hst : St w0 w I [objO at_session_Table p0 a0] R) {r : (Bool)} (hm : law14_told a0 a1 = some r) :
  Calls prog 13 #[p0, r1_0] w fun e w' => ∃ (I' : HL), e = .returned (.bool r) ∧ I.le I' ∧ St w0 w' I' [objO at_session_Table p0 a0] R := by {
 unfold law14_told at hm
 refine calls_start (args := [p0, r1_0]) func13 z ntmps13 (Nat.le_of_ble_eq_true z) ?_
 have hI0 := HL.le.refl I
 refine wp_seq (wrl (wv (.bool false) z z z (wl_nil (tn (wp_seq (wp_seq (wrl (wv (p0) z z z ?_))))))))
 obtain ⟨t1022, ht1023, hm⟩ := bind_some hm
 refine wc call15 [p0] z z z ?_
 refine (session_Table_Len_ref hst.to1 ht1023).mono ?_
 rintro _ w1024 ⟨rfl, hst⟩
 refine ⟨_, z, ?_⟩
 replace hst := hst.of1
 refine wv (r1_0) z z z (wv (.int .i64 ((a1).length : Int)) z z (x_len z underlying29 (ro_sliceV f1_0)) (wv (.bool (t1022 != ((a1).length : Int))) z z z (wl_nil (tn ?_))))
 refine bsplit (t1022 != ((a1).length : Int)) (fun hc1027 => ?_) (fun hc1027 => ?_)
 {
 replace hm := bif_t hc1027 hm
 refine wp_ift (cvb hc1027) ?_
 refine wp_seq (wrl (wv (.bool false) z z z (wl_nil (tn (wp_ret (then_r ?_))))))
 obtain rfl := some_inj hm
 refine post_ret (vs := [.bool false]) results13 (rvs_cons (rv_tmp z) rvs_nil) ?_
 exact ⟨_, z, hI0, hst.keep1⟩
}
 {
 replace hm := bif_f hc1027 hm
 refine wp_iff (cvb hc1027) ?_
 refine wp_skip (tn (wp_seq (wp_seq (wrl ?_))))
 refine wv (.int .u64 (0:Int)) z z z (wl_nil (tn (wp_block ?_)))
 obtain ⟨n1372, hm⟩ := loopO_some hm
 refine wp_loop_n (fun n a w => ∃ (I1370 : HL) (z1369 : Int) (σ1371 : Nat → Value), loopN (law14_told_l0 a1 a0) n z1369 = some r ∧ a = Fr 66 (upd (upd (upd σ1371 0 (p0)) 1 (r1_0)) 5 (.int .u64 z1369)) ∧ I.le I1370 ∧ St w0 w I1370 [objO at_session_Table p0 a0] R) n1372 ⟨_, (0:Int), _, hm, (fu 0 p0 z (fu 1 r1_0 z (fu 5 (.int .u64 (0:Int)) z z))), (HL.le.refl _), hst⟩ ?_
 rintro n1378 _ w1373 ⟨I1370, z1369, σ1371, hm, rfl, hL1374, hst⟩
 obtain ⟨n1375, y1376, rfl, hm, hx1377⟩ := loopN_some hm
 dsimp only [law14_told_l0] at hm
 replace f1_0 := f1_0.mono (ro_le hL1374)
 replace hI0 := hI0.trans hL1374
 refine wp_seq (wp_seq (wrl (wv (.int .u64 z1369) z z z (wv (.bool (decide (z1369 < (6:Int)))) z z z (wl_nil (tn ?_))))))
 refine bsplit (decide (z1369 < (6:Int))) (fun hc1379 => ?_) (fun hc1379 => ?_)
 {
 replace hm := bif_t hc1379 hm
 refine wp_ift (cvb hc1379) ?_
 refine wp_skip (tn (wp_seq (wp_block (wp_seq (wrl ?_)))))
 refine wv (r1_0) z z z (wv (.int .u64 z1369) z z z ?_)
 obtain ⟨t1380, ht1381, hm⟩ := bind_some hm
 refine wc call22 [r1_0, U6 z1369] z z z ?_
 refine (ref11_Last_ref f1_0 hst.to0 ht1381).mono ?_
 rintro _ w1382 ⟨I1383, v1385, v1388, rfl, hI1384, f1387, f1390, hst⟩
 refine ⟨_, z, ?_⟩
 replace hst := hst.of0
 replace f1_0 := f1_0.mono (ro_le hI1384)
 replace hI0 := hI0.trans hI1384
 replace hL1374 := hL1374.trans hI1384
 obtain ⟨b1393, w1394, ew1395, eb1396, hst⟩ := hst.box [Zu, Zu, Zi, Zu, Zu, Zs, Zs] 66
 refine wl_run (v := Pt b1393 0) (w' := w1394) z z (x_al (by kernel_rfl) ew1395 eb1396) ?_
 obtain ⟨w1398, hr1399, hst⟩ := hst.bx [U6 t1380.Session, U6 t1380.Seq, I6 t1380.R.E, U6 t1380.R.Epoch, U6 t1380.R.Index, v1385, v1388] sizeOf66 z (oC z (oC z (oC z (oC z (oC z (oC (one_of_sliceV (ro_sliceV f1387)) (oC (one_of_sliceV (ro_sliceV f1390)) oN))))))) (by kernel_rfl)
 refine wl_unit z z (x_unit hr1399) ?_
 refine wl_nil (tn (wp_seq (wp_seq ?_)))
 refine wp_region_St hst 6 [0, 1, 2, 3, 4, 5] [0, 0, 3, 0, 8, 31] [] z (by kernel_rfl) (by kernel_rfl) Try.mixed (by kernel_rfl) ?_
 refine wsr (p0) 0 z z z (by kernel_rfl) (fun w hst => z) (wsr (.int .u64 z1369) 1 z z z (by kernel_rfl) (fun w hst => z) (wsr (Pt b1393 1) 3 z z z (by kernel_rfl) (fun w hst => x_field z underlying66 z sizeOf30 z) (wsr (.int .u64 t1380.Seq) 4 z z z (by kernel_rfl) (fun w hst => x_load z isAgg30 (hst.bc0 z)) ?_)))
 refine ws_e1 2 (by kernel_rfl) ?_
 refine nxe [5] (by kernel_rfl) z z ?_
 clear hst
 intro w hst
 replace hst := hst.pull1
 obtain ⟨t1400, ht1401, hm⟩ := bind_some hm
 refine wec call16 [p0, U6 z1369] z z ?_
 refine (session_Table_Last_ref hst.to1 ht1401).mono ?_
 rintro _ w1402 ⟨rfl, hst⟩
 refine ⟨_, z, ?_⟩
 replace hst := hst.of1
 refine ws_next (pend' := [(4, U6 t1380.Seq), (3, Pt b1393 1)]) hst (by kernel_rfl) (pkr z z (fun w hst => x_load z isAgg30 (hst.bc1 z)) (pkr z z (fun w hst => x_field z underlying66 z sizeOf30 z) pk_nil)) ?_
 refine wsr (.bool (t1400 != t1380.Seq)) 5 z z z (by kernel_rfl) (fun w hst => z) ?_
 refine ws_nil ?_
 intro w hst
 refine tn ?_
 refine bsplit (t1400 != t1380.Seq) (fun hc1405 => ?_) (fun hc1405 => ?_)
 {
 replace hm := bif_t hc1405 hm
 refine wp_ift (cvb hc1405) ?_
 refine wp_seq (wrl (wv (.bool false) z z z (wl_nil (tn (wp_ret (then_r (blk_r (then_r (then_r ?_)))))))))
 replace hm := inr_up hm hx1377
 refine blk_r (then_r ?_)
 obtain rfl := some_inj hm
 refine post_ret (vs := [.bool false]) results13 (rvs_cons (rv_tmp z) rvs_nil) ?_
 exact ⟨_, z, hI0, hst.keep1⟩
}
 {
 replace hm := bif_f hc1405 hm
 refine wp_iff (cvb hc1405) ?_
 refine wp_skip (tn (wp_seq (wrl ?_)))
 refine wv (.int .u64 (0:Int)) z z z (wl_nil (tn (wp_block ?_)))
 obtain ⟨n1498, hm⟩ := loopO_some hm
 refine wp_loop_n (fun n a w => ∃ (I1496 : HL) (z1495 : Int) (σ1497 : Nat → Value), loopN (law14_told_l1 a0 z1369 t1380) n z1495 = some y1376 ∧ a = Fr 66 (upd (upd (upd (upd (upd σ1497 0 (p0)) 1 (r1_0)) 5 (.int .u64 z1369)) 6 (Pt b1393 0)) 7 (.int .u64 z1495)) ∧ I1383.le I1496 ∧ St w0 w I1496 [objO at_session_Table p0 a0, cells b1393 [U6 t1380.Session, U6 t1380.Seq, I6 t1380.R.E, U6 t1380.R.Epoch, U6 t1380.R.Index, v1385, v1388]] R) n1498 ⟨_, (0:Int), _, hm, (fu 0 p0 z (fu 1 r1_0 z (fu 5 (.int .u64 z1369) z (fu 6 (Pt b1393 0) z (fu 7 (.int .u64 (0:Int)) z z))))), (HL.le.refl _), hst⟩ ?_
 rintro n1504 _ w1499 ⟨I1496, z1495, σ1497, hm, rfl, hL1500, hst⟩
 obtain ⟨n1501, y1502, rfl, hm, hx1503⟩ := loopN_some hm
 dsimp only [law14_told_l1] at hm
 replace f1_0 := f1_0.mono (ro_le hL1500)
 replace f1387 := f1387.mono (ro_le hL1500)
 replace f1390 := f1390.mono (ro_le hL1500)
 replace hI0 := hI0.trans hL1500
 replace hL1374 := hL1374.trans hL1500
 refine wp_seq (wp_seq (wrl (wv (.int .u64 z1495) z z z (wv (.bool (decide (z1495 < (8:Int)))) z z z (wl_nil (tn ?_))))))
 refine bsplit (decide (z1495 < (8:Int))) (fun hc1505 => ?_) (fun hc1505 => ?_)
 {
 replace hm := bif_t hc1505 hm
 refine wp_ift (cvb hc1505) ?_
 refine wp_skip (tn (wp_seq (wp_block (wp_seq (wrl ?_)))))
 refine wv (p0) z z z (wv (.int .u64 z1369) z z z (wv (.int .u64 z1495) z z z ?_))
 obtain ⟨t1506, ht1507, hm⟩ := bind_some hm
 refine wc call14 [p0, U6 z1369, U6 z1495] z z z ?_
 refine (session_Table_Get_ref hst.to1 ht1507).mono ?_
 rintro _ w1508 ⟨I1509, v1511, v1514, rfl, hI1510, f1513, f1516, hst⟩
 refine ⟨_, z, ?_⟩
 replace hst := hst.of1
 replace f1_0 := f1_0.mono (ro_le hI1510)
 replace f1387 := f1387.mono (ro_le hI1510)
 replace f1390 := f1390.mono (ro_le hI1510)
 replace hI0 := hI0.trans hI1510
 replace hL1374 := hL1374.trans hI1510
 replace hL1500 := hL1500.trans hI1510
 refine wv (.tuple #[.agg #[I6 t1506.1.E, U6 t1506.1.Epoch, U6 t1506.1.Index, v1511, v1514], I6 t1506.2]) z z z (wv (.agg #[I6 t1506.1.E, U6 t1506.1.Epoch, U6 t1506.1.Index, v1511, v1514]) z z z (wv (.int .i64 t1506.2) z z z ?_))
 obtain ⟨b1519, w1520, ew1521, eb1522, hst⟩ := hst.box [Zi, Zu, Zu, Zs, Zs] 36
 refine wl_run (v := Pt b1519 0) (w' := w1520) z z (x_al (by kernel_rfl) ew1521 eb1522) ?_
 obtain ⟨w1524, hr1525, hst⟩ := hst.bx [I6 t1506.1.E, U6 t1506.1.Epoch, U6 t1506.1.Index, v1511, v1514] sizeOf36 z (oC z (oC z (oC z (oC (one_of_sliceV (ro_sliceV f1513)) (oC (one_of_sliceV (ro_sliceV f1516)) oN))))) (by kernel_rfl)
 refine wl_unit z z (x_unit hr1525) ?_
 refine wv (.int .i64 t1506.2) z z z (wl_nil (tn (wp_seq (wrl (wv (.int .i64 (2:Int)) z z z (wl_nil (tn ?_)))))))
 obtain ⟨y1530, hm, hx1531⟩ := bind_some hm
 refine wp_cut (fun a w => ∃ (z1527 : Int) (σ1528 : Nat → Value), (law14_told_j2 t1380 z1495 t1506) z1527 = some y1502 ∧ a = Fr 66 (upd (upd (upd (upd (upd (upd (upd (upd σ1528 0 (p0)) 1 (r1_0)) 5 (.int .u64 z1369)) 6 (Pt b1393 0)) 7 (.int .u64 z1495)) 8 (Pt b1519 0)) 9 (.int .i64 t1506.2)) 10 (.int .i64 z1527)) ∧ St w0 w I1509 [objO at_session_Table p0 a0, cells b1393 [U6 t1380.Session, U6 t1380.Seq, I6 t1380.R.E, U6 t1380.R.Epoch, U6 t1380.R.Index, v1385, v1388], cells b1519 [I6 t1506.1.E, U6 t1506.1.Epoch, U6 t1506.1.Index, v1511, v1514]] R) ?_ ?_
 {
 refine wp_seq (wrl (wv (Pt b1393 1) z z (x_field z underlying66 z sizeOf30 z) (wv (.int .u64 t1380.Seq) z z (x_load z isAgg30 (hst.bc2 z)) (wv (.int .u64 z1495) z z z (wv (.bool (decide (t1380.Seq > z1495))) z z z (wl_nil (tn ?_)))))))
 refine bsplit (decide (t1380.Seq > z1495)) (fun hc1526 => ?_) (fun hc1526 => ?_)
 {
 replace hm := bif_t hc1526 hm
 refine wp_ift (cvb hc1526) ?_
 refine wrl (wv (.int .i64 (10:Int)) z z z (wl_nil (tn ?_)))
 replace hst := hst.pull2.pull2.keep3
 obtain rfl := some_inj hm
 exact ⟨(10:Int), _, hx1531, (fu 0 p0 z (fu 1 r1_0 z (fu 5 (.int .u64 z1369) z (fu 6 (Pt b1393 0) z (fu 7 (.int .u64 z1495) z (fu 8 (Pt b1519 0) z (fu 9 (.int .i64 t1506.2) z (fu 10 (.int .i64 (10:Int)) z z)))))))), hst⟩
}
 {
 replace hm := bif_f hc1526 hm
 refine wp_iff (cvb hc1526) ?_
 refine wp_skip (tn ?_)
 replace hst := hst.pull2.pull2.keep3
 obtain rfl := some_inj hm
 exact ⟨(2:Int), _, hx1531, (fu 0 p0 z (fu 1 r1_0 z (fu 5 (.int .u64 z1369) z (fu 6 (Pt b1393 0) z (fu 7 (.int .u64 z1495) z (fu 8 (Pt b1519 0) z (fu 9 (.int .i64 t1506.2) z (fu 10 (.int .i64 (2:Int)) z z)))))))), hst⟩
}
}
 {
 clear hst
 rintro _ w1532 ⟨z1527, σ1528, hm, rfl, hst⟩
 dsimp only [law14_told_j2] at hm
 obtain ⟨y1538, hm, hx1539⟩ := bind_some hm
 refine wp_cut (fun a w => ∃ (z1535 : Int) (σ1536 : Nat → Value), (law14_told_j3 t1506 t1380 z1495) z1535 = some y1502 ∧ a = Fr 66 (upd (upd (upd (upd (upd (upd (upd (upd σ1536 0 (p0)) 1 (r1_0)) 5 (.int .u64 z1369)) 6 (Pt b1393 0)) 7 (.int .u64 z1495)) 8 (Pt b1519 0)) 9 (.int .i64 t1506.2)) 10 (.int .i64 z1535)) ∧ St w0 w I1509 [objO at_session_Table p0 a0, cells b1393 [U6 t1380.Session, U6 t1380.Seq, I6 t1380.R.E, U6 t1380.R.Epoch, U6 t1380.R.Index, v1385, v1388], cells b1519 [I6 t1506.1.E, U6 t1506.1.Epoch, U6 t1506.1.Index, v1511, v1514]] R) ?_ ?_
 {
 refine wp_seq (wrl (wv (Pt b1393 1) z z (x_field z underlying66 z sizeOf30 z) (wv (.int .u64 t1380.Seq) z z (x_load z isAgg30 (hst.bc1 z)) (wv (.int .u64 z1495) z z z (wv (.bool (t1380.Seq == z1495)) z z z (wv (.bool (t1380.Seq == z1495)) z z z ?_))))))
 refine bsplit (t1380.Seq == z1495) (fun hc1533 => ?_) (fun hc1533 => ?_)
 {
 replace hm := bif_t hc1533 hm
 refine wv (.int .u64 z1495) ((wanted_eq z z z (cvb hc1533)).trans z) z z (wv (.bool (decide (z1495 > (0:Int)))) ((wanted_eq z z z (cvb hc1533)).trans z) z z (wv (.bool (decide (z1495 > (0:Int)))) z z (x_pick_t hc1533 z z) (wl_nil (tn ?_))))
 refine bsplit (decide (z1495 > (0:Int))) (fun hc1534 => ?_) (fun hc1534 => ?_)
 {
 replace hm := bif_t hc1534 hm
 refine wp_ift (cvb hc1534) ?_
 refine wrl (wv (.int .i64 (0:Int)) z z z (wl_nil (tn ?_)))
 replace hst := hst.pull2.pull2.pull2.keep3
 obtain rfl := some_inj hm
 exact ⟨(0:Int), _, hx1539, (fu 0 p0 z (fu 1 r1_0 z (fu 5 (.int .u64 z1369) z (fu 6 (Pt b1393 0) z (fu 7 (.int .u64 z1495) z (fu 8 (Pt b1519 0) z (fu 9 (.int .i64 t1506.2) z (fu 10 (.int .i64 (0:Int)) z z)))))))), hst⟩
}
 {
 replace hm := bif_f hc1534 hm
 refine wp_iff (cvb hc1534) ?_
 refine wp_skip (tn ?_)
 replace hst := hst.pull2.pull2.pull2.keep3
 obtain rfl := some_inj hm
 exact ⟨z1527, _, hx1539, (fu 0 p0 z (fu 1 r1_0 z (fu 5 (.int .u64 z1369) z (fu 6 (Pt b1393 0) z (fu 7 (.int .u64 z1495) z (fu 8 (Pt b1519 0) z (fu 9 (.int .i64 t1506.2) z (fu 10 (.int .i64 z1527) z z)))))))), hst⟩
}
}
 {
 replace hm := bif_f hc1533 hm
 refine wo hc1533 z z z z z z (wo hc1533 z z z z z z (wv (.bool false) z z (x_pick_f hc1533 z z) (wl_nil (tn ?_))))
 refine wp_iff z ?_
 refine wp_skip (tn ?_)
 replace hst := hst.pull2.pull2.pull2.keep3
 obtain rfl := some_inj hm
 exact ⟨z1527, _, hx1539, (fu 0 p0 z (fu 1 r1_0 z (fu 5 (.int .u64 z1369) z (fu 6 (Pt b1393 0) z (fu 7 (.int .u64 z1495) z (fu 8 (Pt b1519 0) z (fu 9 (.int .i64 t1506.2) z (fu 10 (.int .i64 z1527) z z)))))))), hst⟩
}
}
 {
 clear hst
 rintro _ w1540 ⟨z1535, σ1536, hm, rfl, hst⟩
 dsimp only [law14_told_j3] at hm
 refine wp_seq (wrl (wv (.int .i64 t1506.2) z z z (wv (.int .i64 z1535) z z z (wv (.bool (t1506.2 != z1535)) z z z (wv (.bool (t1506.2 != z1535)) z z z ?_)))))
 refine bsplit (t1506.2 != z1535) (fun hc1541 => ?_) (fun hc1541 => ?_)
 {
 replace hm := bif_t hc1541 hm
 refine wo hc1541 z z z z z z (wo hc1541 z z z z z z (wo hc1541 z z z z z z (wl_off (wanted_undef z z z z) z (wl_off (wanted_undef z z z z) z (wl_off (wanted_undef z z z z) z (wl_off (wanted_undef z z z z) z (wl_off (wanted_undef z z z z) z (wo hc1541 z z z z z z (wv (.bool true) z z (x_pick_t hc1541 z z) (wl_nil (tn ?_)))))))))))
 refine wp_ift z ?_
 refine wp_seq (wrl (wv (.bool false) z z z (wl_nil (tn (wp_ret (blk_r (then_r (then_r ?_))))))))
 replace hm := inr_up hm hx1503
 refine blk_r (blk_r (then_r (then_r ?_)))
 replace hm := inr_up hm hx1377
 refine blk_r (then_r ?_)
 obtain rfl := some_inj hm
 refine post_ret (vs := [.bool false]) results13 (rvs_cons (rv_tmp z) rvs_nil) ?_
 exact ⟨_, z, hI0, hst.keep1⟩
}
 {
 replace hm := bif_f hc1541 hm
 refine wv (.int .i64 t1506.2) ((wanted_eq z z z (cvb hc1541)).trans z) z z (wv (.bool (t1506.2 == (0:Int))) ((wanted_eq z z z (cvb hc1541)).trans z) z z (wv (.bool (t1506.2 == (0:Int))) ((wanted_eq z z z (cvb hc1541)).trans z) z z ?_))
 refine bsplit (t1506.2 == (0:Int)) (fun hc1542 => ?_) (fun hc1542 => ?_)
 {
 replace hm := bif_t hc1542 hm
 refine wv (.agg #[I6 t1506.1.E, U6 t1506.1.Epoch, U6 t1506.1.Index, v1511, v1514]) ((wanted_eq z z z (cvb hc1542)).trans z) z (x_loadN (cs := [I6 t1506.1.E, U6 t1506.1.Epoch, U6 t1506.1.Index, v1511, v1514]) z isAgg36 sizeOf36 (hst.bcs2 0 z)) (wv (Pt b1393 2) ((wanted_eq z z z (cvb hc1542)).trans z) z (x_field z underlying66 z sizeOf36 z) (wv (.agg #[I6 t1380.R.E, U6 t1380.R.Epoch, U6 t1380.R.Index, v1385, v1388]) ((wanted_eq z z z (cvb hc1542)).trans z) z (x_loadN (cs := [I6 t1380.R.E, U6 t1380.R.Epoch, U6 t1380.R.Index, v1385, v1388]) z isAgg36 sizeOf36 (hst.bcs1 2 z)) ?_))
 obtain ⟨t1543, ht1544, hm⟩ := bind_some hm
 refine wl_call ((wanted_eq z z z (cvb hc1542)).trans z) z (x_call call17 z (vs := [.agg #[I6 t1506.1.E, U6 t1506.1.Epoch, U6 t1506.1.Index, v1511, v1514], .agg #[I6 t1380.R.E, U6 t1380.R.Epoch, U6 t1380.R.Index, v1385, v1388]]) z) ?_
 refine (ref11_SameReply_ref (f1513.mono ro_rd) (f1516.mono ro_rd) (f1387.mono ro_rd) (f1390.mono ro_rd) hst.to0 ht1544).mono ?_
 rintro _ w1545 ⟨rfl, hst⟩
 refine ⟨_, z, ?_⟩
 replace hst := hst.of0
 refine wv (.bool (!t1543)) ((wanted_eq z z z (cvb hc1542)).trans z) z z (wv (.bool (!t1543)) ((wanted_eq z z z (cvb hc1541)).trans z) z (x_pick_t hc1542 z z) (wv (.bool (!t1543)) z z (x_pick_f hc1541 z z) (wl_nil (tn ?_))))
 refine bsplit (!t1543) (fun hc1548 => ?_) (fun hc1548 => ?_)
 {
 replace hm := bif_t hc1548 hm
 refine wp_ift (cvb hc1548) ?_
 refine wp_seq (wrl (wv (.bool false) z z z (wl_nil (tn (wp_ret (blk_r (then_r (then_r ?_))))))))
 replace hm := inr_up hm hx1503
 refine blk_r (blk_r (then_r (then_r ?_)))
 replace hm := inr_up hm hx1377
 refine blk_r (then_r ?_)
 obtain rfl := some_inj hm
 refine post_ret (vs := [.bool false]) results13 (rvs_cons (rv_tmp z) rvs_nil) ?_
 exact ⟨_, z, hI0, hst.keep1⟩
}
 {
 replace hm := bif_f hc1548 hm
 refine wp_iff (cvb hc1548) ?_
 refine wp_skip (blk_n (tn (wrl ?_)))
 refine wv (.int .u64 z1495) z z z (wv (.int .u64 (u64.wrap (z1495 + (1:Int)))) z z z (wv (.int .u64 (u64.wrap (z1495 + (1:Int)))) z z z (wl_nil (tn ?_))))
 replace hst := hst.pull1.pull1.keep2
 obtain rfl := some_inj hm
 exact ⟨_, Nat.lt_succ_self _, _, (u64.wrap (z1495 + (1:Int))), _, hx1503, (fu 0 p0 z (fu 1 r1_0 z (fu 5 (.int .u64 z1369) z (fu 6 (Pt b1393 0) z (fu 7 (.int .u64 (u64.wrap (z1495 + (1:Int)))) z z))))), hL1500, hst⟩
}
}
 {
 replace hm := bif_f hc1542 hm
 refine wo hc1542 z z z z z z (wo hc1542 z z z z z z (wo hc1542 z z z z z z (wo hc1542 z z z z z z (wo hc1542 z z z z z z (wv (.bool false) ((wanted_eq z z z (cvb hc1541)).trans z) z (x_pick_f hc1542 z z) (wv (.bool false) z z (x_pick_f hc1541 z z) (wl_nil (tn ?_))))))))
 refine wp_iff z ?_
 refine wp_skip (blk_n (tn (wrl ?_)))
 refine wv (.int .u64 z1495) z z z (wv (.int .u64 (u64.wrap (z1495 + (1:Int)))) z z z (wv (.int .u64 (u64.wrap (z1495 + (1:Int)))) z z z (wl_nil (tn ?_))))
 replace hst := hst.pull1.pull1.keep2
 obtain rfl := some_inj hm
 exact ⟨_, Nat.lt_succ_self _, _, (u64.wrap (z1495 + (1:Int))), _, hx1503, (fu 0 p0 z (fu 1 r1_0 z (fu 5 (.int .u64 z1369) z (fu 6 (Pt b1393 0) z (fu 7 (.int .u64 (u64.wrap (z1495 + (1:Int)))) z z))))), hL1500, hst⟩
}
}
}
}
}
 {
 replace hm := bif_f hc1505 hm
 refine wp_iff (cvb hc1505) ?_
 refine wp_exit (then_x (then_x ?_))
 replace hm := inr_up hm hx1503
 refine blk_x (blk_n (tn (wrl ?_)))
 refine wv (.int .u64 z1369) z z z (wv (.int .u64 (u64.wrap (z1369 + (1:Int)))) z z z (wv (.int .u64 (u64.wrap (z1369 + (1:Int)))) z z z (wl_nil (tn ?_))))
 replace hst := hst.keep1
 obtain rfl := some_inj hm
 exact ⟨_, Nat.lt_succ_self _, _, (u64.wrap (z1369 + (1:Int))), _, hx1377, (fu 0 p0 z (fu 1 r1_0 z (fu 5 (.int .u64 (u64.wrap (z1369 + (1:Int)))) z z))), hL1374, hst⟩
}
}
}
 {
 replace hm := bif_f hc1379 hm
 refine wp_iff (cvb hc1379) ?_
 refine wp_exit (then_x (then_x ?_))
 replace hm := inr_up hm hx1377
 refine blk_x (tn (wp_seq (wrl ?_)))
 refine wv (.bool true) z z z (wl_nil (tn (wp_ret ?_)))
 obtain rfl := some_inj hm
 refine post_ret (vs := [.bool true]) results13 (rvs_cons (rv_tmp z) rvs_nil) ?_
 exact ⟨_, z, hI0, hst.keep1⟩
}
}
}

end Go.Proofs.Ytkfifhkjdibadaa
