/- The Go functions refine their models, part 1. -/
import Derived.Test.YtkfifhkjdibadaaSessionJunkR0
set_option linter.unusedVariables false
set_option linter.unusedSimpArgs false
set_option maxRecDepth 100000
set_option maxHeartbeats 4000000
namespace Go.Proofs.Ytkfifhkjdibadaa
open Go Go.V
open _root_.Go.Proofs.Try IntKind
attribute [local irreducible] wpList Code.wp wpQuiet Calls bodyPost Oper.wp wpS Nx PendOK YieldsIn
theorem session_Table_Encode_ref {w0 w : World} {I : HL} {R : SP} {a0 : (Option session_Table)} {p0 : Value}  (hst : St w0 w I [objO at_session_Table p0 a0] R) {r : ((List Int))} (hm : session_Table_Encode a0 = some r) :
  Calls prog 19 #[p0] w fun e w' => ∃ (q0_0 : Value), e = .returned (q0_0) ∧ St w0 w' I [ownS (tyInt .u8) q0_0 r, objO at_session_Table p0 a0] R := by {
 rcases a0 with _ | o0
 {
 obtain ⟨rfl, hst'⟩ := objO_none hst
 clear hst
 have hst := hst'
 clear hst'
 dsimp only [session_Table_Encode] at hm
 refine calls_start (args := [.pointer none]) func19 z ntmps19 (Nat.le_of_ble_eq_true z) ?_
 refine wp_seq (wrl (wv ((.slice none 0 0)) z z z (wl_nil (tn (wp_seq (wrl (wv (.agg #[Zs]) z z (by kernel_rfl) ?_)))))))
 obtain ⟨b541, w542, ew543, eb544, hst⟩ := hst.box [Zs] 82
 refine wl_run (v := Pt b541 0) (w' := w542) z z (x_al (by kernel_rfl) ew543 eb544) ?_
 refine wv (Pt b541 0) z z z (wl_nil (tn (wp_seq (wrl (wv (Pt b541 0) z z z (wv (.pointer none) z z z ?_))))))
 replace hst := hst.objO_nil at_session_Table
 obtain ⟨t548, ht549, hm⟩ := bind_some hm
 refine wc call15 [.pointer none] z z z ?_
 refine (session_Table_Len_ref hst.to1 ht549).mono ?_
 rintro _ w550 ⟨rfl, hst⟩
 refine ⟨_, z, ?_⟩
 replace hst := hst.of1
 refine wv (.int .u64 (u64.wrap t548)) z z (by kernel_rfl) ?_
 replace hst := hst.own_nil (tyInt .u8)
 replace hst := hst.pull2
 replace hst := at_octet_Writer_close (pv := Pt b541 0) (x := ({ p := [] } : octet_Writer)) hst z
 obtain ⟨t553, ht554, hm⟩ := bind_some hm
 refine wc call34 [Pt b541 0, U6 (u64.wrap t548), I6 (4:Int)] z z z ?_
 refine (octet_Writer_Num_ref hst.to1 ht554).mono ?_
 rintro _ w555 ⟨rfl, hst⟩
 refine ⟨_, z, ?_⟩
 replace hst := hst.of1
 refine wl_nil (tn (wp_seq (wp_seq (wrl (wv (.pointer none) z z z ?_)))))
 replace hst := hst.objO_nil at_session_Table
 obtain ⟨t559, ht560, hm⟩ := bind_some hm
 refine wc call15 [.pointer none] z z z ?_
 refine (session_Table_Len_ref hst.to1 ht560).mono ?_
 rintro _ w561 ⟨rfl, hst⟩
 refine ⟨_, z, ?_⟩
 replace hst := hst.of1
 refine wv (.int .i64 (0:Int)) z z z (wl_nil (tn (wp_block ?_)))
 replace hst := hst.sub.pull1.sub
 obtain ⟨n566, hm⟩ := loopO_some hm
 refine wp_loop_n (fun n a w => ∃ (σ565 : Nat → Value), loopN (session_Table_Encode_l0 t559 t553) n () = some r ∧ a = Fr 49 (upd (upd (upd (upd σ565 0 (.pointer none)) 3 (Pt b541 0)) 13 (.int .i64 t559)) 14 (.int .i64 (0:Int))) ∧ St w0 w I [at_octet_Writer (Pt b541 0) t553] R) n566 ⟨_, hm, (fu 0 (.pointer none) z (fu 3 (Pt b541 0) z (fu 13 (.int .i64 t559) z (fu 14 (.int .i64 (0:Int)) z z)))), hst⟩ ?_
 rintro n572 _ w567 ⟨σ565, hm, rfl, hst⟩
 obtain ⟨n569, y570, rfl, hm, hx571⟩ := loopN_some hm
 dsimp only [session_Table_Encode_l0] at hm
 refine wp_seq (wrl (wv (.bool (decide ((0:Int) < t559))) z z z (wl_nil (tn (wp_seq ?_)))))
 refine bsplit (decide ((0:Int) < t559)) (fun hc573 => ?_) (fun hc573 => ?_)
 {
 replace hm := bif_t hc573 hm
 refine wp_ift (cvb hc573) ?_
 refine wp_skip (tn (wp_seq (wp_block (wp_seq (wrl ?_)))))
 refine wv (.int .i64 (0:Int)) z z z (wv (.int .i64 (0:Int)) z z z (wl_nil (tn (wp_seq ?_))))
 refine wp_region_St hst 19 [0, 1, 2, 3, 4, 5, 6, 7, 8, 9, 10, 11, 12, 13, 14, 15, 16, 17, 18] [0, 0, 2, 6, 14, 0, 62, 126, 254, 511, 0, 1024, 3072, 7168, 0, 31744, 64512, 130048, 262143] [] z (by kernel_rfl) (by kernel_rfl) Try.mixed (by kernel_rfl) ?_
 refine wsr (Pt b541 0) 0 z z z (by kernel_rfl) (fun w hst => z) (wsr (.pointer none) 1 z z z (by kernel_rfl) (fun w hst => z) ?_)
 cases hm
}
 {
 replace hm := bif_f hc573 hm
 refine wp_iff (cvb hc573) ?_
 refine wp_exit (then_x (then_x ?_))
 replace hm := inr_up hm hx571
 refine blk_x (tn (wp_seq (wrl ?_)))
 refine wv (Pt b541 0) z z z ?_
 obtain ⟨t574, ht575, hm⟩ := bind_some hm
 refine wc call36 [Pt b541 0] z z z ?_
 refine (octet_Writer_Done_ref hst.to1 ht575).mono ?_
 rintro _ w576 ⟨v579, rfl, hst⟩
 refine ⟨_, z, ?_⟩
 replace hst := hst.of1
 refine wv (v579) z z z (wl_nil (tn (wp_ret ?_)))
 replace hst := hst.objO_nil at_session_Table
 obtain rfl := some_inj hm
 refine post_ret (vs := [v579]) results19 (rvs_cons (rv_tmp z) rvs_nil) ?_
 replace hst := hst.pull1
 exact ⟨v579, z, hst.keep2⟩
}
}
 {
 replace hst := objO_get hst
 dsimp only [session_Table_Encode] at hm
 refine calls_start (args := [p0]) func19 z ntmps19 (Nat.le_of_ble_eq_true z) ?_
 refine wp_seq (wrl (wv ((.slice none 0 0)) z z z (wl_nil (tn (wp_seq (wrl (wv (.agg #[Zs]) z z (by kernel_rfl) ?_)))))))
 obtain ⟨b583, w584, ew585, eb586, hst⟩ := hst.box [Zs] 82
 refine wl_run (v := Pt b583 0) (w' := w584) z z (x_al (by kernel_rfl) ew585 eb586) ?_
 refine wv (Pt b583 0) z z z (wl_nil (tn (wp_seq (wrl (wv (Pt b583 0) z z z (wv (p0) z z z ?_))))))
 replace hst := hst.pull1
 replace hst := objO_some hst
 obtain ⟨t589, ht590, hm⟩ := bind_some hm
 refine wc call15 [p0] z z z ?_
 refine (session_Table_Len_ref hst.to1 ht590).mono ?_
 rintro _ w591 ⟨rfl, hst⟩
 refine ⟨_, z, ?_⟩
 replace hst := hst.of1
 replace hst := objO_get hst
 refine wv (.int .u64 (u64.wrap t589)) z z (by kernel_rfl) ?_
 replace hst := hst.own_nil (tyInt .u8)
 replace hst := hst.pull2
 replace hst := at_octet_Writer_close (pv := Pt b583 0) (x := ({ p := [] } : octet_Writer)) hst z
 obtain ⟨t594, ht595, hm⟩ := bind_some hm
 refine wc call34 [Pt b583 0, U6 (u64.wrap t589), I6 (4:Int)] z z z ?_
 refine (octet_Writer_Num_ref hst.to1 ht595).mono ?_
 rintro _ w596 ⟨rfl, hst⟩
 refine ⟨_, z, ?_⟩
 replace hst := hst.of1
 refine wl_nil (tn (wp_seq (wp_seq (wrl (wv (p0) z z z ?_)))))
 replace hst := hst.pull1
 replace hst := objO_some hst
 obtain ⟨t599, ht600, hm⟩ := bind_some hm
 refine wc call15 [p0] z z z ?_
 refine (session_Table_Len_ref hst.to1 ht600).mono ?_
 rintro _ w601 ⟨rfl, hst⟩
 refine ⟨_, z, ?_⟩
 replace hst := hst.of1
 replace hst := objO_get hst
 refine wv (.int .i64 (0:Int)) z z z (wl_nil (tn (wp_block ?_)))
 obtain ⟨n697, hm⟩ := loopO_some hm
 refine wp_loop_n (fun n a w => ∃ (z694 : octet_Writer) (z695 : Int) (σ696 : Nat → Value), loopN (session_Table_Encode_l1 t599 o0) n (z694, z695) = some r ∧ a = Fr 49 (upd (upd (upd (upd σ696 0 (p0)) 3 (Pt b583 0)) 13 (.int .i64 t599)) 14 (.int .i64 z695)) ∧ St w0 w I [at_session_Table p0 o0, at_octet_Writer (Pt b583 0) z694] R) n697 ⟨t594, (0:Int), _, hm, (fu 0 p0 z (fu 3 (Pt b583 0) z (fu 13 (.int .i64 t599) z (fu 14 (.int .i64 (0:Int)) z z)))), hst⟩ ?_
 rintro n703 _ w698 ⟨z694, z695, σ696, hm, rfl, hst⟩
 obtain ⟨n700, y701, rfl, hm, hx702⟩ := loopN_some hm
 dsimp only [session_Table_Encode_l1] at hm
 refine wp_seq (wrl (wv (.bool (decide (z695 < t599))) z z z (wl_nil (tn (wp_seq ?_)))))
 refine bsplit (decide (z695 < t599)) (fun hc704 => ?_) (fun hc704 => ?_)
 {
 replace hm := bif_t hc704 hm
 refine wp_ift (cvb hc704) ?_
 refine wp_skip (tn (wp_seq (wp_block (wp_seq (wrl ?_)))))
 refine wv (.int .i64 z695) z z z (wv (.int .i64 z695) z z z (wl_nil (tn (wp_seq ?_))))
 obtain ⟨b705, v706, rfl, hst'⟩ := at_session_Table_open hst
 clear hst
 have hst := hst'
 clear hst'
 replace hst := hst.pull1
 obtain ⟨css708, hq709, hst⟩ := hst.own_open
 refine wp_region_St hst 19 [0, 1, 2, 3, 4, 5, 6, 7, 8, 9, 10, 11, 12, 13, 14, 15, 16, 17, 18] [0, 0, 2, 6, 14, 0, 62, 126, 254, 511, 0, 1024, 3072, 7168, 0, 31744, 64512, 130048, 262143] [] z (by kernel_rfl) (by kernel_rfl) Try.mixed (by kernel_rfl) ?_
 refine wsr (Pt b583 0) 0 z z z (by kernel_rfl) (fun w hst => z) (wsr (Pt b705 0) 1 z z z (by kernel_rfl) (fun w hst => z) (wsr (Pt b705 0) 2 z z z (by kernel_rfl) (fun w hst => z) (wsr (Pt b705 0) 3 z z z (by kernel_rfl) (fun w hst => x_field z underlying56 z sizeOf54 z) (wsr (v706) 4 z z z (by kernel_rfl) (fun w hst => x_load z isAgg54 (hst.bc1 z)) (wsr (.int .i64 z695) 5 z z z (by kernel_rfl) (fun w hst => z) ?_)))))
 obtain ⟨x710, hx711, hm⟩ := bind_some hm
 obtain ⟨h712, h713, hi714⟩ := geto_some hx711
 refine wsr (.pointer (some (eAddr v706 (z695.toNat * 7 + 0)))) 6 z z z (by kernel_rfl) (fun w hst => x_index z z underlying54 sizeOf71 (hst.rsv 0 z hq709) h712 h713) (wsr (.pointer (some (eAddr v706 (z695.toNat * 7 + 0)))) 7 z z z (by kernel_rfl) (fun w hst => x_field_e z underlying71 z sizeOf30 z) ?_)
 obtain ⟨cs715, hc717, hr716⟩ := Reps.get hq709 hi714
 obtain ⟨v718, v721, rfl, f719, f722, -⟩ := hr716
 refine wsr (.int .u64 x710.session) 8 z z z (by kernel_rfl) (fun w hst => x_load z isAgg30 ((hst.rcell 0 z hc717) 0 _ z)) (wsr (Pt b705 0) 10 z z z (by kernel_rfl) (fun w hst => z) (wsr (Pt b705 0) 11 z z z (by kernel_rfl) (fun w hst => z) (wsr (Pt b705 0) 12 z z z (by kernel_rfl) (fun w hst => x_field z underlying56 z sizeOf54 z) (wsr (v706) 13 z z z (by kernel_rfl) (fun w hst => x_load z isAgg54 (hst.bc1 z)) (wsr (.int .i64 z695) 14 z z z (by kernel_rfl) (fun w hst => z) (wsr (.pointer (some (eAddr v706 (z695.toNat * 7 + 0)))) 15 z z z (by kernel_rfl) (fun w hst => x_index z z underlying54 sizeOf71 (hst.rsv 0 z hq709) h712 h713) (wsr (.pointer (some (eAddr v706 (z695.toNat * 7 + 1)))) 16 z z z (by kernel_rfl) (fun w hst => x_field_e z underlying71 z sizeOf30 z) (wsr (.int .u64 x710.seq) 17 z z z (by kernel_rfl) (fun w hst => x_load z isAgg30 ((hst.rcell 0 z hc717) 1 _ z)) ?_))))))))
 refine ws_e1 9 (by kernel_rfl) ?_
 refine nxe [18] (by kernel_rfl) z z ?_
 clear hst
 intro w hst
 replace hst := hst.pull2
 obtain ⟨t724, ht725, hm⟩ := bind_some hm
 refine wec call34 [Pt b583 0, U6 x710.session, I6 (8:Int)] z z ?_
 refine (octet_Writer_Num_ref hst.to1 ht725).mono ?_
 rintro _ w726 ⟨rfl, hst⟩
 refine ⟨_, z, ?_⟩
 replace hst := hst.of1
 refine ws_next (pend' := [(17, U6 x710.seq), (16, .pointer (some (eAddr v706 (z695.toNat * 7 + 1)))), (15, .pointer (some (eAddr v706 (z695.toNat * 7 + 0)))), (14, I6 z695), (13, v706), (12, Pt b705 0), (11, Pt b705 0), (10, Pt b705 0)]) hst (by kernel_rfl) (pkr z z (fun w hst => x_load z isAgg30 ((hst.rcell 1 z hc717) 1 _ z)) (pkr z z (fun w hst => x_field_e z underlying71 z sizeOf30 z) (pkr z z (fun w hst => x_index z z underlying54 sizeOf71 (hst.rsv 1 z hq709) h712 h713) (pkr z z (fun w hst => z) (pkr z z (fun w hst => x_load z isAgg54 (hst.bc2 z)) (pkr z z (fun w hst => x_field z underlying56 z sizeOf54 z) (pkr z z (fun w hst => z) (pkr z z (fun w hst => z) pk_nil)))))))) ?_
 refine ws_e1 18 (by kernel_rfl) ?_
 refine nxe [] (by kernel_rfl) z z ?_
 clear hst
 intro w hst
 obtain ⟨t729, ht730, hm⟩ := bind_some hm
 refine wec call34 [Pt b583 0, U6 x710.seq, I6 (8:Int)] z z ?_
 refine (octet_Writer_Num_ref hst.to1 ht730).mono ?_
 rintro _ w731 ⟨rfl, hst⟩
 refine ⟨_, z, ?_⟩
 replace hst := hst.of1
 refine ws_next (pend' := []) hst (by kernel_rfl) pk_nil ?_
 refine ws_nil ?_
 intro w hst
 replace hst := hst.pull1.own_close hq709
 refine tn (wrl (wv (Pt b583 0) z z z (wv (Pt b705 0) z z z (wv (Pt b705 0) z z z (wv (Pt b705 0) z z (x_field z underlying56 z sizeOf54 z) (wv (v706) z z (x_load z isAgg54 (hst.bc2 z)) (wv (.int .i64 z695) z z z (wv (.pointer (some (eAddr v706 (z695.toNat * 7 + 0)))) z z (x_index z z underlying54 sizeOf71 hst.sv0 h712 h713) (wv (.pointer (some (eAddr v706 (z695.toNat * 7 + 2)))) z z (x_field_e z underlying71 z sizeOf36 z) ?_)))))))))
 obtain ⟨cs734, hr735, hc736⟩ := hst.og0 hi714
 obtain ⟨v737, v740, rfl, f738, f741, -⟩ := hr735
 refine wv (.agg #[I6 x710.r.E, U6 x710.r.Epoch, U6 x710.r.Index, v737, v740]) z z (x_loadN (cs := [I6 x710.r.E, U6 x710.r.Epoch, U6 x710.r.Index, v737, v740]) z isAgg36 sizeOf36 (eCells (o := 2) hc736 z)) ?_
 replace hst := hst.pull1
 obtain ⟨t743, ht744, hm⟩ := bind_some hm
 refine wc call35 [Pt b583 0, .agg #[I6 x710.r.E, U6 x710.r.Epoch, U6 x710.r.Index, v737, v740]] z z z ?_
 refine (command_LayReply_ref (f738.mono ro_rd) (f741.mono ro_rd) hst.to1 ht744).mono ?_
 rintro _ w745 ⟨rfl, hst⟩
 refine ⟨_, z, ?_⟩
 replace hst := hst.of1
 refine wl_nil (blk_n (tn (wrl (wv (.int .i64 (i64.wrap (z695 + (1:Int)))) z z z (wv (.int .i64 (i64.wrap (z695 + (1:Int)))) z z z (wl_nil (tn ?_)))))))
 replace hst := hst.pull1.pull2
 replace hst := at_session_Table_close (pv := Pt b705 0) (x := o0) hst z
 replace hst := hst.pull1.pull1.keep2
 obtain rfl := some_inj hm
 exact ⟨_, Nat.lt_succ_self _, t743, (i64.wrap (z695 + (1:Int))), _, hx702, (fu 0 (Pt b705 0) z (fu 3 (Pt b583 0) z (fu 13 (.int .i64 t599) z (fu 14 (.int .i64 (i64.wrap (z695 + (1:Int)))) z z)))), hst⟩
}
 {
 replace hm := bif_f hc704 hm
 refine wp_iff (cvb hc704) ?_
 refine wp_exit (then_x (then_x ?_))
 replace hm := inr_up hm hx702
 refine blk_x (tn (wp_seq (wrl ?_)))
 refine wv (Pt b583 0) z z z ?_
 replace hst := hst.pull1
 obtain ⟨t748, ht749, hm⟩ := bind_some hm
 refine wc call36 [Pt b583 0] z z z ?_
 refine (octet_Writer_Done_ref hst.to1 ht749).mono ?_
 rintro _ w750 ⟨v753, rfl, hst⟩
 refine ⟨_, z, ?_⟩
 replace hst := hst.of1
 refine wv (v753) z z z (wl_nil (tn (wp_ret ?_)))
 replace hst := hst.pull1
 replace hst := objO_some hst
 obtain rfl := some_inj hm
 refine post_ret (vs := [v753]) results19 (rvs_cons (rv_tmp z) rvs_nil) ?_
 replace hst := hst.pull1
 exact ⟨v753, z, hst.keep2⟩
}
}
}

theorem slices_Equal_byte_byte_ref {w0 w : World} {I : HL} {R : SP} {a0 : (List Int)} {r0_0 : Value} {a1 : (List Int)} {r1_0 : Value} (f0_0 : Rd (tyInt .u8) R I r0_0 a0) (f1_0 : Rd (tyInt .u8) R I r1_0 a1) (hst : St w0 w I [] R) {r : (Bool)} (hm : slices_Equal_byte_byte a0 a1 = some r) :
  Calls prog 33 #[r0_0, r1_0] w fun e w' => e = .returned (.bool r) ∧ St w0 w' I [] R := by {
 unfold slices_Equal_byte_byte at hm
 refine calls_start (args := [r0_0, r1_0]) func33 z ntmps33 (Nat.le_of_ble_eq_true z) ?_
 refine wp_seq (wrl (wv (.bool false) z z z (wl_nil (tn (wp_seq (wp_seq (wrl (wv (r0_0) z z z (wv (.int .i64 ((a0).length : Int)) z z (x_len z underlying22 (rd_sliceV f0_0)) (wv (r1_0) z z z (wv (.int .i64 ((a1).length : Int)) z z (x_len z underlying22 (rd_sliceV f1_0)) (wv (.bool (((a0).length : Int) != ((a1).length : Int))) z z z (wl_nil (tn ?_))))))))))))))
 refine bsplit (((a0).length : Int) != ((a1).length : Int)) (fun hc379 => ?_) (fun hc379 => ?_)
 {
 replace hm := bif_t hc379 hm
 refine wp_ift (cvb hc379) ?_
 refine wp_seq (wrl (wv (.bool false) z z z (wl_nil (tn (wp_ret (then_r ?_))))))
 obtain rfl := some_inj hm
 refine post_ret (vs := [.bool false]) results33 (rvs_cons (rv_tmp z) rvs_nil) ?_
 exact ⟨z, hst.keep0⟩
}
 {
 replace hm := bif_f hc379 hm
 refine wp_iff (cvb hc379) ?_
 refine wp_skip (tn (wp_seq (wp_seq (wrl ?_))))
 refine wv (r0_0) z z z (wv (.int .i64 ((a0).length : Int)) z z (x_len z underlying22 (rd_sliceV f0_0)) (wv (.int .i64 (0:Int)) z z z (wl_nil (tn (wp_block ?_)))))
 obtain ⟨n407, hm⟩ := loopO_some hm
 refine wp_loop_n (fun n a w => ∃ (z405 : Int) (σ406 : Nat → Value), loopN (slices_Equal_byte_byte_l0 a0 a1) n z405 = some r ∧ a = Fr 26 (upd (upd (upd (upd σ406 0 (r0_0)) 1 (r1_0)) 12 (.int .i64 ((a0).length : Int))) 13 (.int .i64 z405)) ∧ St w0 w I [] R) n407 ⟨(0:Int), _, hm, (fu 0 r0_0 z (fu 1 r1_0 z (fu 12 (.int .i64 ((a0).length : Int)) z (fu 13 (.int .i64 (0:Int)) z z)))), hst⟩ ?_
 rintro n413 _ w408 ⟨z405, σ406, hm, rfl, hst⟩
 obtain ⟨n410, y411, rfl, hm, hx412⟩ := loopN_some hm
 dsimp only [slices_Equal_byte_byte_l0] at hm
 refine wp_seq (wrl (wv (.bool (decide (z405 < ((a0).length : Int)))) z z z (wl_nil (tn (wp_seq ?_)))))
 refine bsplit (decide (z405 < ((a0).length : Int))) (fun hc414 => ?_) (fun hc414 => ?_)
 {
 replace hm := bif_t hc414 hm
 refine wp_ift (cvb hc414) ?_
 refine wp_skip (tn (wp_seq (wp_block (wp_seq (wrl ?_)))))
 refine wv (.int .i64 z405) z z z (wv (.int .i64 z405) z z z (wl_nil (tn (wp_seq ?_))))
 refine wq_regionS hst Try.mixed (by kernel_rfl) ?_
 refine wq_run (v := r0_0) z z (fun w hst => z) ?_
 refine wq_run (v := .int .i64 z405) z z (fun w hst => z) ?_
 obtain ⟨x415, hx416, hm⟩ := bind_some hm
 obtain ⟨h417, h418, hi419⟩ := geto_some hx416
 refine wq_run (v := .pointer (some (eAddr r0_0 (z405.toNat * 1 + 0)))) z z (fun w hst => x_index z z underlying22 sizeOf5 (rd_sliceV f0_0) h417 h418) ?_
 refine wq_run (v := .int .u8 x415) z z (fun w hst => x_load z isAgg5 (rd_load f0_0 (HL.le.refl _) hst hi419 (by rintro _ rfl; rfl))) ?_
 refine wq_run (v := r1_0) z z (fun w hst => z) ?_
 refine wq_run (v := .int .i64 z405) z z (fun w hst => z) ?_
 obtain ⟨x420, hx421, hm⟩ := bind_some hm
 obtain ⟨h422, h423, hi424⟩ := geto_some hx421
 refine wq_run (v := .pointer (some (eAddr r1_0 (z405.toNat * 1 + 0)))) z z (fun w hst => x_index z z underlying22 sizeOf5 (rd_sliceV f1_0) h422 h423) ?_
 refine wq_run (v := .int .u8 x420) z z (fun w hst => x_load z isAgg5 (rd_load f1_0 (HL.le.refl _) hst hi424 (by rintro _ rfl; rfl))) ?_
 refine wq_run (v := .bool (x415 != x420)) z z (fun w hst => z) ?_
 refine wq_nil ?_
 intro w hst
 refine tn ?_
 refine bsplit (x415 != x420) (fun hc425 => ?_) (fun hc425 => ?_)
 {
 replace hm := bif_t hc425 hm
 refine wp_ift (cvb hc425) ?_
 refine wp_seq (wrl (wv (.bool false) z z z (wl_nil (tn (wp_ret (blk_r (then_r (then_r ?_))))))))
 replace hm := inr_up hm hx412
 refine blk_r (then_r ?_)
 obtain rfl := some_inj hm
 refine post_ret (vs := [.bool false]) results33 (rvs_cons (rv_tmp z) rvs_nil) ?_
 exact ⟨z, hst.keep0⟩
}
 {
 replace hm := bif_f hc425 hm
 refine wp_iff (cvb hc425) ?_
 refine wp_skip (blk_n (tn (wrl ?_)))
 refine wv (.int .i64 (i64.wrap (z405 + (1:Int)))) z z z (wv (.int .i64 (i64.wrap (z405 + (1:Int)))) z z z (wl_nil (tn ?_)))
 replace hst := hst.keep0
 obtain rfl := some_inj hm
 exact ⟨_, Nat.lt_succ_self _, (i64.wrap (z405 + (1:Int))), _, hx412, (fu 0 r0_0 z (fu 1 r1_0 z (fu 12 (.int .i64 ((a0).length : Int)) z (fu 13 (.int .i64 (i64.wrap (z405 + (1:Int)))) z z)))), hst⟩
}
}
 {
 replace hm := bif_f hc414 hm
 refine wp_iff (cvb hc414) ?_
 refine wp_exit (then_x (then_x ?_))
 replace hm := inr_up hm hx412
 refine blk_x (tn (wp_seq (wrl ?_)))
 refine wv (.bool true) z z z (wl_nil (tn (wp_ret ?_)))
 obtain rfl := some_inj hm
 refine post_ret (vs := [.bool true]) results33 (rvs_cons (rv_tmp z) rvs_nil) ?_
 exact ⟨z, hst.keep0⟩
}
}
}

theorem session_Decode_ref {w0 w : World} {I : HL} {R : SP} {a0 : (List Int)} {r0_0 : Value} (f0_0 : Ro (tyInt .u8) I r0_0 a0) (hst : St w0 w I [] R) {r : (Option session_Table × Int)} (hm : session_Decode a0 = some r) :
  Calls prog 18 #[r0_0] w fun e w' => ∃ (I' : HL) (q0 : Value), e = .returned (.tuple #[q0, I6 r.2]) ∧ I.le I' ∧ St w0 w' I' [objO at_session_Table q0 r.1] R := by {
 unfold session_Decode at hm
 refine calls_start (args := [r0_0]) func18 z ntmps18 (Nat.le_of_ble_eq_true z) ?_
 have hI0 := HL.le.refl I
 refine wp_seq (wrl (wv (.pointer none) z z z (wv (.int .i64 (0:Int)) z z z (wl_nil (tn (wp_seq (wrl (wv (r0_0) z z z ?_))))))))
 obtain ⟨t337, ht338, hm⟩ := bind_some hm
 refine wc call27 [r0_0] z z z ?_
 refine (octet_Read_ref f0_0 hst.to0 ht338).mono ?_
 rintro _ w339 ⟨v342, rfl, hst⟩
 refine ⟨_, z, ?_⟩
 replace hst := hst.of1
 refine wv (v342) z z z (wl_nil (tn (wp_seq (wrl ?_))))
 obtain ⟨t344, ht345, hm⟩ := bind_some hm
 refine wc call8 [] z z z ?_
 refine (session_New_ref hst.to0 ht345).mono ?_
 rintro _ w346 ⟨v349, rfl, hst⟩
 refine ⟨_, z, ?_⟩
 replace hst := hst.of1
 refine wv (v349) z z z (wl_nil (tn ?_))
 obtain ⟨y621, hm, hx622⟩ := joinO_some hm
 refine wp_cut (fun a w => ∃ (I618 : HL) (z616 : octet_Reader) (z617 : session_Table) (σ619 : Nat → Value), (session_Decode_j0 a0) (z616, z617) = some r ∧ a = Fr 68 (upd (upd (upd σ619 0 (r0_0)) 4 (v342)) 5 (v349)) ∧ I.le I618 ∧ St w0 w I618 [at_octet_Reader v342 z616, at_session_Table v349 z617] R) ?_ ?_
 {
 have hL623 := HL.le.refl I
 refine wp_seq (wrl (wv (v342) z z z (wv (v342) z z z ?_)))
 replace hst := hst.pull1
 obtain ⟨t351, ht352, hm⟩ := bind_some hm
 refine wc call29 [v342] z z z ?_
 refine (octet_Reader_Left_ref hst.to1 ht352).mono ?_
 rintro _ w353 ⟨rfl, hst⟩
 refine ⟨_, z, ?_⟩
 replace hst := hst.of1
 obtain ⟨t356, ht357, hm⟩ := bind_some hm
 refine wc call28 [v342, I6 t351] z z z ?_
 refine (octet_Reader_Count_ref hst.to1 ht357).mono ?_
 rintro _ w358 ⟨rfl, hst⟩
 refine ⟨_, z, ?_⟩
 replace hst := hst.of1
 refine wv (.int .i64 (0:Int)) z z z (wl_nil (tn (wp_block ?_)))
 obtain ⟨n529, hm⟩ := loopO_some hm
 refine wp_loop_n (fun n a w => ∃ (I527 : HL) (z524 : octet_Reader) (z525 : session_Table) (z526 : Int) (σ528 : Nat → Value), loopN (session_Decode_l1 t356) n (z524, z525, z526) = some y621 ∧ a = Fr 68 (upd (upd (upd (upd (upd σ528 0 (r0_0)) 4 (v342)) 5 (v349)) 14 (.int .i64 t356.1)) 15 (.int .i64 z526)) ∧ I.le I527 ∧ St w0 w I527 [at_octet_Reader v342 z524, at_session_Table v349 z525] R) n529 ⟨_, t356.2, t344, (0:Int), _, hm, (fu 0 r0_0 z (fu 4 v342 z (fu 5 v349 z (fu 14 (.int .i64 t356.1) z (fu 15 (.int .i64 (0:Int)) z z))))), (HL.le.refl _), hst⟩ ?_
 rintro n535 _ w530 ⟨I527, z524, z525, z526, σ528, hm, rfl, hL531, hst⟩
 obtain ⟨n532, y533, rfl, hm, hx534⟩ := loopN_some hm
 dsimp only [session_Decode_l1] at hm
 replace f0_0 := f0_0.mono (ro_le hL531)
 replace hI0 := hI0.trans hL531
 replace hL623 := hL623.trans hL531
 refine wp_seq (wrl (wv (.bool (decide (z526 < t356.1))) z z z (wl_nil (tn (wp_seq ?_)))))
 refine bsplit (decide (z526 < t356.1)) (fun hc536 => ?_) (fun hc536 => ?_)
 {
 replace hm := bif_t hc536 hm
 refine wp_ift (cvb hc536) ?_
 refine wp_skip (tn (wp_seq (wp_block (wp_seq (wrl ?_)))))
 refine wv (.int .i64 z526) z z z (wv (.int .i64 z526) z z z (wl_nil (tn (wp_seq (wrl (wv (v342) z z z ?_))))))
 obtain ⟨t537, ht538, hm⟩ := bind_some hm
 refine wc call30 [v342, I6 (8:Int)] z z z ?_
 refine (octet_Reader_Num_ref hst.to1 ht538).mono ?_
 rintro _ w539 ⟨rfl, hst⟩
 refine ⟨_, z, ?_⟩
 replace hst := hst.of1
 refine wv (v342) z z z ?_
 obtain ⟨t542, ht543, hm⟩ := bind_some hm
 refine wc call30 [v342, I6 (8:Int)] z z z ?_
 refine (octet_Reader_Num_ref hst.to1 ht543).mono ?_
 rintro _ w544 ⟨rfl, hst⟩
 refine ⟨_, z, ?_⟩
 replace hst := hst.of1
 refine wv (v342) z z z ?_
 obtain ⟨t547, ht548, hm⟩ := bind_some hm
 refine wc call31 [v342] z z z ?_
 refine (command_ReadReply_ref hst.to1 ht548).mono ?_
 rintro _ w549 ⟨I550, v552, v554, rfl, hI551, hst⟩
 refine ⟨_, z, ?_⟩
 replace hst := hst.of3
 replace f0_0 := f0_0.mono (ro_le hI551)
 replace hI0 := hI0.trans hI551
 replace hL623 := hL623.trans hI551
 replace hL531 := hL531.trans hI551
 refine wv (.agg #[U6 t537.1, U6 t542.1, I6 t547.1.E, U6 t547.1.Epoch, U6 t547.1.Index, v552, v554]) z z (by kernel_rfl) ?_
 obtain ⟨b560, w561, ew562, eb563, hst⟩ := hst.box [Zu, Zu, Zi, Zu, Zu, Zs, Zs] 71
 refine wl_run (v := Pt b560 0) (w' := w561) z z (x_al (by kernel_rfl) ew562 eb563) ?_
 obtain ⟨w565, hr566, hst⟩ := hst.bx [U6 t537.1, U6 t542.1, I6 t547.1.E, U6 t547.1.Epoch, U6 t547.1.Index, v552, v554] sizeOf71 z (oC z (oC z (oC z (oC z (oC z (oC (one_of_sliceV hst.sv1) (oC (one_of_sliceV hst.sv2) oN))))))) (by kernel_rfl)
 refine wl_unit z z (x_unit hr566) ?_
 refine wl_nil (tn ?_)
 obtain ⟨y591, hm, hx592⟩ := joinO_some hm
 refine wp_cut (fun a w => ∃ (σ589 : Nat → Value), (session_Decode_j2 z525 t537 t542 t547 z526) () = some y533 ∧ a = Fr 68 (upd (upd (upd (upd (upd (upd σ589 0 (r0_0)) 4 (v342)) 5 (v349)) 7 (Pt b560 0)) 14 (.int .i64 t356.1)) 15 (.int .i64 z526)) ∧ St w0 w I550 [at_octet_Reader v342 t547.2, at_session_Table v349 z525, cells b560 [U6 t537.1, U6 t542.1, I6 t547.1.E, U6 t547.1.Epoch, U6 t547.1.Index, v552, v554], ownS ty_api_Got v552 t547.1.Gots, ownS (tySl ty_api_Pair) v554 t547.1.Scans] R) ?_ ?_
 {
 refine wp_seq ?_
 replace hst := hst.pull4
 obtain ⟨b567, v568, rfl, hst'⟩ := at_session_Table_open hst
 clear hst
 have hst := hst'
 clear hst'
 replace hst := hst.pull1
 obtain ⟨css570, hq571, hst⟩ := hst.own_open
 refine wq_regionS hst Try.mixed (by kernel_rfl) ?_
 refine wq_run (v := Pt b560 1) z z (fun w hst => x_field z underlying71 z sizeOf30 z) ?_
 refine wq_run (v := .int .u64 t542.1) z z (fun w hst => x_load z isAgg30 (hst.bc2 z)) ?_
 refine wq_run (v := .bool (t542.1 == (0:Int))) z z (fun w hst => z) ?_
 refine wq_run (v := .bool (t542.1 == (0:Int))) z z (fun w hst => z) ?_
 refine bsplit (t542.1 == (0:Int)) (fun hc572 => ?_) (fun hc572 => ?_)
 {
 replace hm := bif_t hc572 hm
 refine wq_off ((wanted_eq z z z (cvb hc572)).trans z) z ?_
 refine wq_off ((wanted_eq z z z (cvb hc572)).trans z) z ?_
 refine wq_off ((wanted_eq z z z (cvb hc572)).trans z) z ?_
 refine wq_off (wanted_undef z z z z) z ?_
 refine wq_off (wanted_undef z z z z) z ?_
 refine wq_off (wanted_undef z z z z) z ?_
 refine wq_off (wanted_undef z z z z) z ?_
 refine wq_off (wanted_undef z z z z) z ?_
 refine wq_off (wanted_undef z z z z) z ?_
 refine wq_off (wanted_undef z z z z) z ?_
 refine wq_off (wanted_undef z z z z) z ?_
 refine wq_off (wanted_undef z z z z) z ?_
 refine wq_off (wanted_undef z z z z) z ?_
 refine wq_off (wanted_undef z z z z) z ?_
 refine wq_off (wanted_undef z z z z) z ?_
 refine wq_off ((wanted_eq z z z (cvb hc572)).trans z) z ?_
 refine wq_run (v := .bool true) z z (fun w hst => x_pick_t hc572 z z) ?_
 refine wq_nil ?_
 intro w hst
 replace hst := hst.own_close hq571
 refine tn ?_
 refine wp_ift z ?_
 refine wp_seq (wrl (wv (.pointer none) z z z (wv (.int .i64 (5:Int)) z z z (wl_nil (tn (wp_ret (then_r ?_)))))))
 replace hm := inr_up hm hx592
 refine blk_r (then_r (then_r ?_))
 replace hm := inr_up hm hx534
 refine blk_r (then_r ?_)
 replace hm := inr_up hm hx622
 replace hst := hst.objO_nil at_session_Table
 obtain rfl := some_inj hm
 refine post_ret (vs := [.pointer none, I6 (5:Int)]) results18 (rvs_cons (rv_tmp z) (rvs_cons (rv_tmp z) rvs_nil)) ?_
 exact ⟨_, .pointer none, z, hI0, hst.keep1⟩
}
 {
 replace hm := bif_f hc572 hm
 refine wq_run (v := .int .i64 z526) ((wanted_eq z z z (cvb hc572)).trans z) z (fun w hst => z) ?_
 refine wq_run (v := .bool (decide (z526 > (0:Int)))) ((wanted_eq z z z (cvb hc572)).trans z) z (fun w hst => z) ?_
 refine wq_run (v := .bool (decide (z526 > (0:Int)))) ((wanted_eq z z z (cvb hc572)).trans z) z (fun w hst => z) ?_
 refine bsplit (decide (z526 > (0:Int))) (fun hc574 => ?_) (fun hc574 => ?_)
 {
 replace hm := bif_t hc574 hm
 refine wq_run (v := Pt b567 0) ((wanted_eq z z z (cvb hc574)).trans z) z (fun w hst => z) ?_
 refine wq_run (v := Pt b567 0) ((wanted_eq z z z (cvb hc574)).trans z) z (fun w hst => z) ?_
 refine wq_run (v := Pt b567 0) ((wanted_eq z z z (cvb hc574)).trans z) z (fun w hst => x_field z underlying56 z sizeOf54 z) ?_
 refine wq_run (v := v568) ((wanted_eq z z z (cvb hc574)).trans z) z (fun w hst => x_load z isAgg54 (hst.bc1 z)) ?_
 refine wq_run (v := .int .i64 z526) ((wanted_eq z z z (cvb hc574)).trans z) z (fun w hst => z) ?_
 refine wq_run (v := .int .i64 (i64.wrap (z526 - (1:Int)))) ((wanted_eq z z z (cvb hc574)).trans z) z (fun w hst => z) ?_
 obtain ⟨x575, hx576, hm⟩ := bind_some hm
 obtain ⟨h577, h578, hi579⟩ := geto_some hx576
 refine wq_run (v := .pointer (some (eAddr v568 ((i64.wrap (z526 - (1:Int))).toNat * 7 + 0)))) ((wanted_eq z z z (cvb hc574)).trans z) z (fun w hst => x_index z z underlying54 sizeOf71 (hst.rsv 0 z hq571) h577 h578) ?_
 refine wq_run (v := .pointer (some (eAddr v568 ((i64.wrap (z526 - (1:Int))).toNat * 7 + 0)))) ((wanted_eq z z z (cvb hc574)).trans z) z (fun w hst => x_field_e z underlying71 z sizeOf30 z) ?_
 obtain ⟨cs580, hc582, hr581⟩ := Reps.get hq571 hi579
 obtain ⟨v583, v586, rfl, f584, f587, -⟩ := hr581
 refine wq_run (v := .int .u64 x575.session) ((wanted_eq z z z (cvb hc574)).trans z) z (fun w hst => x_load z isAgg30 ((hst.rcell 0 z hc582) 0 _ z)) ?_
 refine wq_run (v := Pt b560 0) ((wanted_eq z z z (cvb hc574)).trans z) z (fun w hst => x_field z underlying71 z sizeOf30 z) ?_
 refine wq_run (v := .int .u64 t537.1) ((wanted_eq z z z (cvb hc574)).trans z) z (fun w hst => x_load z isAgg30 (hst.bc2 z)) ?_
 refine wq_run (v := .bool (decide (x575.session ≥ t537.1))) ((wanted_eq z z z (cvb hc574)).trans z) z (fun w hst => z) ?_
 refine wq_run (v := .bool (decide (x575.session ≥ t537.1))) ((wanted_eq z z z (cvb hc572)).trans z) z (fun w hst => x_pick_t hc574 z z) ?_
 refine wq_run (v := .bool (decide (x575.session ≥ t537.1))) z z (fun w hst => x_pick_f hc572 z z) ?_
 refine wq_nil ?_
 intro w hst
 replace hst := hst.own_close hq571
 refine tn ?_
 refine bsplit (decide (x575.session ≥ t537.1)) (fun hc589 => ?_) (fun hc589 => ?_)
 {
 replace hm := bif_t hc589 hm
 refine wp_ift (cvb hc589) ?_
 refine wp_seq (wrl (wv (.pointer none) z z z (wv (.int .i64 (5:Int)) z z z (wl_nil (tn (wp_ret (then_r ?_)))))))
 replace hm := inr_up hm hx592
 refine blk_r (then_r (then_r ?_))
 replace hm := inr_up hm hx534
 refine blk_r (then_r ?_)
 replace hm := inr_up hm hx622
 replace hst := hst.objO_nil at_session_Table
 obtain rfl := some_inj hm
 refine post_ret (vs := [.pointer none, I6 (5:Int)]) results18 (rvs_cons (rv_tmp z) (rvs_cons (rv_tmp z) rvs_nil)) ?_
 exact ⟨_, .pointer none, z, hI0, hst.keep1⟩
}
 {
 replace hm := bif_f hc589 hm
 refine wp_iff (cvb hc589) ?_
 refine wp_skip (tn ?_)
 replace hst := hst.pull1
 replace hst := at_session_Table_close (pv := Pt b567 0) (x := z525) hst z
 replace hst := hst.pull3.pull3.pull3.pull3.pull4.keep5
 obtain rfl := some_inj hm
 exact ⟨_, hx592, (fu 0 r0_0 z (fu 4 v342 z (fu 5 (Pt b567 0) z (fu 7 (Pt b560 0) z (fu 14 (.int .i64 t356.1) z (fu 15 (.int .i64 z526) z z)))))), hst⟩
}
}
 {
 replace hm := bif_f hc574 hm
 refine wq_off ((wanted_eq z z z (cvb hc574)).trans z) z ?_
 refine wq_off ((wanted_eq z z z (cvb hc574)).trans z) z ?_
 refine wq_off ((wanted_eq z z z (cvb hc574)).trans z) z ?_
 refine wq_off ((wanted_eq z z z (cvb hc574)).trans z) z ?_
 refine wq_off ((wanted_eq z z z (cvb hc574)).trans z) z ?_
 refine wq_off ((wanted_eq z z z (cvb hc574)).trans z) z ?_
 refine wq_off ((wanted_eq z z z (cvb hc574)).trans z) z ?_
 refine wq_off ((wanted_eq z z z (cvb hc574)).trans z) z ?_
 refine wq_off ((wanted_eq z z z (cvb hc574)).trans z) z ?_
 refine wq_off ((wanted_eq z z z (cvb hc574)).trans z) z ?_
 refine wq_off ((wanted_eq z z z (cvb hc574)).trans z) z ?_
 refine wq_off ((wanted_eq z z z (cvb hc574)).trans z) z ?_
 refine wq_run (v := .bool false) ((wanted_eq z z z (cvb hc572)).trans z) z (fun w hst => x_pick_f hc574 z z) ?_
 refine wq_run (v := .bool false) z z (fun w hst => x_pick_f hc572 z z) ?_
 refine wq_nil ?_
 intro w hst
 replace hst := hst.own_close hq571
 refine tn ?_
 refine wp_iff z ?_
 refine wp_skip (tn ?_)
 replace hst := hst.pull1
 replace hst := at_session_Table_close (pv := Pt b567 0) (x := z525) hst z
 replace hst := hst.pull3.pull3.pull3.pull3.pull4.keep5
 obtain rfl := some_inj hm
 exact ⟨_, hx592, (fu 0 r0_0 z (fu 4 v342 z (fu 5 (Pt b567 0) z (fu 7 (Pt b560 0) z (fu 14 (.int .i64 t356.1) z (fu 15 (.int .i64 z526) z z)))))), hst⟩
}
}
}
 {
 clear hst
 rintro _ w593 ⟨σ589, hm, rfl, hst⟩
 dsimp only [session_Decode_j2] at hm
 replace hst := hst.pull1
 obtain ⟨b594, v595, rfl, hst'⟩ := at_session_Table_open hst
 clear hst
 have hst := hst'
 clear hst'
 refine wp_region_St hst 11 [0, 1, 2, 3, 4, 5, 6, 7, 8, 9, 10] [0, 0, 2, 6, 14, 0, 32, 126, 255, 511, 1023] [] z (by kernel_rfl) (by kernel_rfl) Try.mixed (by kernel_rfl) ?_
 refine wsr (Pt b594 0) 0 z z z (by kernel_rfl) (fun w hst => z) (wsr (Pt b594 0) 1 z z z (by kernel_rfl) (fun w hst => z) (wsr (Pt b594 0) 2 z z z (by kernel_rfl) (fun w hst => z) (wsr (Pt b594 0) 3 z z z (by kernel_rfl) (fun w hst => x_field z underlying56 z sizeOf54 z) (wsr (v595) 4 z z z (by kernel_rfl) (fun w hst => x_load z isAgg54 (hst.bc0 z)) (wsr (.agg #[U6 t537.1, U6 t542.1, I6 t547.1.E, U6 t547.1.Epoch, U6 t547.1.Index, v552, v554]) 5 z z z (by kernel_rfl) (fun w hst => x_loadN (cs := [U6 t537.1, U6 t542.1, I6 t547.1.E, U6 t547.1.Epoch, U6 t547.1.Index, v552, v554]) z isAgg71 sizeOf71 (hst.bcs3 0 z)) ?_)))))
 refine ws_e1 6 (by kernel_rfl) ?_
 refine nxe [7, 8, 9, 10] (by kernel_rfl) z z ?_
 clear hst
 intro w hst
 replace hst := hst.pull4
 obtain ⟨I599, hI600, f601, hst⟩ := hst.own_fix
 replace f0_0 := f0_0.mono (ro_le hI600)
 replace hI0 := hI0.trans hI600
 replace hL623 := hL623.trans hI600
 replace hL531 := hL531.trans hI600
 replace hst := hst.pull4
 obtain ⟨I602, hI603, f604, hst⟩ := hst.own_fix
 replace f0_0 := f0_0.mono (ro_le hI603)
 replace f601 := f601.mono (ro_le hI603)
 replace hI0 := hI0.trans hI603
 replace hL623 := hL623.trans hI603
 replace hL531 := hL531.trans hI603
 obtain ⟨b605, w606, ew607, eb608, hst⟩ := hst.lits (E := ty_session_row) (xs := [({ session := t537.1, seq := t542.1, r := t547.1 } : session_row)]) [[U6 t537.1, U6 t542.1, I6 t547.1.E, U6 t547.1.Epoch, U6 t547.1.Index, v552, v554]] 71 1 z (Reps.cons ⟨_, _, z, f601, f604, one_of_sliceV (ro_sliceV f601), one_of_sliceV (ro_sliceV f604)⟩ Reps.nil)
 refine we_run (v := (.slice (some ⟨b605, 0, none⟩) 1 1)) (w' := w606) z (x_als (by kernel_rfl) ew607 eb608) ?_
 refine ws_next (pend' := [(4, v595), (3, Pt b594 0), (2, Pt b594 0), (1, Pt b594 0), (0, Pt b594 0)]) hst (by kernel_rfl) (pkr z z (fun w hst => x_load z isAgg54 (hst.bc1 z)) (pkr z z (fun w hst => x_field z underlying56 z sizeOf54 z) (pkr z z (fun w hst => z) (pkr z z (fun w hst => z) (pkr z z (fun w hst => z) pk_nil))))) ?_
 refine ws_e1 7 (by kernel_rfl) ?_
 refine nxe [8, 9, 10] (by kernel_rfl) z z ?_
 clear hst
 intro w hst
 obtain ⟨hg610, hm⟩ := gd_some hm
 replace hst := hst.pull2
 obtain ⟨v611, w612, hr613, hst⟩ := run_append elem_54 underlying54 hst hst.src1 (room_of hg610 z) 54
 refine we_run (v := v611) (w' := w612) z (x_append z z hr613) ?_
 refine ws_next (pend' := [(0, Pt b594 0)]) hst (by kernel_rfl) (pkr z z (fun w hst => z) pk_nil) ?_
 refine wsr (Pt b594 0) 8 z z z (by kernel_rfl) (fun w hst => z) (wsr (Pt b594 0) 9 z z z (by kernel_rfl) (fun w hst => x_field z underlying56 z sizeOf54 z) ?_)
 refine ws_e1 10 (by kernel_rfl) ?_
 refine nxe [] (by kernel_rfl) z z ?_
 clear hst
 intro w hst
 replace hst := hst.pull2
 obtain ⟨w614, hr615, hst⟩ := hst.boxStore1 (P := prog) (t := 54) (cs' := [v611]) 0 v611 (one_of_sliceV hst.sv1) sizeOf54 z z
 refine we_unit z (x_unit hr615) ?_
 refine ws_next (pend' := []) hst (by kernel_rfl) pk_nil ?_
 refine ws_nil ?_
 intro w hst
 refine blk_n (tn (wrl ?_))
 refine wv (.int .i64 (i64.wrap (z526 + (1:Int)))) z z z (wv (.int .i64 (i64.wrap (z526 + (1:Int)))) z z z (wl_nil (tn ?_)))
 replace hst := hst.pull1.pull1
 replace hst := at_session_Table_close (pv := Pt b594 0) (x := ({ l := (z525.l ++ ([({ session := t537.1, seq := t542.1, r := t547.1 } : session_row)])) } : session_Table)) hst z
 replace hst := hst.pull2.keep2
 obtain rfl := some_inj hm
 exact ⟨_, Nat.lt_succ_self _, _, t547.2, ({ l := (z525.l ++ ([({ session := t537.1, seq := t542.1, r := t547.1 } : session_row)])) } : session_Table), (i64.wrap (z526 + (1:Int))), _, hx534, (fu 0 r0_0 z (fu 4 v342 z (fu 5 (Pt b594 0) z (fu 14 (.int .i64 t356.1) z (fu 15 (.int .i64 (i64.wrap (z526 + (1:Int)))) z z))))), hL531, hst⟩
}
}
 {
 replace hm := bif_f hc536 hm
 refine wp_iff (cvb hc536) ?_
 refine wp_exit (then_x (then_x ?_))
 replace hm := inr_up hm hx534
 refine blk_x (tn ?_)
 replace hst := hst.pull1.pull1.keep2
 obtain rfl := some_inj hm
 exact ⟨_, z524, z525, _, hx622, (fu 0 r0_0 z (fu 4 v342 z (fu 5 v349 z z))), hL623, hst⟩
}
}
 {
 clear hst
 rintro _ w624 ⟨I618, z616, z617, σ619, hm, rfl, hL620, hst⟩
 dsimp only [session_Decode_j0] at hm
 replace f0_0 := f0_0.mono (ro_le hL620)
 replace hI0 := hI0.trans hL620
 refine wp_seq (wp_seq (wrl (wv (v342) z z z ?_)))
 obtain ⟨t625, ht626, hm⟩ := bind_some hm
 refine wc call32 [v342] z z z ?_
 refine (octet_Reader_End_ref hst.to1 ht626).mono ?_
 rintro _ w627 ⟨rfl, hst⟩
 refine ⟨_, z, ?_⟩
 replace hst := hst.of1
 refine wv (.bool (!t625)) z z z (wv (.bool (!t625)) z z z ?_)
 refine bsplit (!t625) (fun hc630 => ?_) (fun hc630 => ?_)
 {
 replace hm := bif_t hc630 hm
 refine wo hc630 z z z z z z (wo hc630 z z z z z z (wo hc630 z z z z z z (wo hc630 z z z z z z (wo hc630 z z z z z z (wv (.bool true) z z (x_pick_t hc630 z z) (wl_nil (tn ?_)))))))
 refine wp_ift z ?_
 refine wp_seq (wrl (wv (.pointer none) z z z (wv (.int .i64 (5:Int)) z z z (wl_nil (tn (wp_ret (then_r ?_)))))))
 replace hst := hst.objO_nil at_session_Table
 obtain rfl := some_inj hm
 refine post_ret (vs := [.pointer none, I6 (5:Int)]) results18 (rvs_cons (rv_tmp z) (rvs_cons (rv_tmp z) rvs_nil)) ?_
 exact ⟨_, .pointer none, z, hI0, hst.keep1⟩
}
 {
 replace hm := bif_f hc630 hm
 refine wv (v349) ((wanted_eq z z z (cvb hc630)).trans z) z z ?_
 replace hst := hst.pull1
 replace hst := objO_some hst
 obtain ⟨t632, ht633, hm⟩ := bind_some hm
 refine wl_call ((wanted_eq z z z (cvb hc630)).trans z) z (x_call call19 z (vs := [v349]) z) ?_
 refine (session_Table_Encode_ref hst.to1 ht633).mono ?_
 rintro _ w634 ⟨v637, rfl, hst⟩
 refine ⟨_, z, ?_⟩
 replace hst := hst.of2.pull1
 replace hst := objO_get hst
 refine wv (r0_0) ((wanted_eq z z z (cvb hc630)).trans z) z z ?_
 replace hst := hst.pull1
 obtain ⟨css639, hq640, hst⟩ := hst.own_open
 obtain ⟨t641, ht642, hm⟩ := bind_some hm
 refine wl_call ((wanted_eq z z z (cvb hc630)).trans z) z (x_call call33 z (vs := [v637, r0_0]) z) ?_
 refine (slices_Equal_byte_byte_ref (hst.rdrow0 hq640) (f0_0.mono ro_rd) hst.to0 ht642).mono ?_
 rintro _ w643 ⟨rfl, hst⟩
 refine ⟨_, z, ?_⟩
 replace hst := hst.of0.own_close hq640
 refine wv (.bool (!t641)) ((wanted_eq z z z (cvb hc630)).trans z) z z (wv (.bool (!t641)) z z (x_pick_f hc630 z z) (wl_nil (tn ?_)))
 refine bsplit (!t641) (fun hc646 => ?_) (fun hc646 => ?_)
 {
 replace hm := bif_t hc646 hm
 refine wp_ift (cvb hc646) ?_
 refine wp_seq (wrl (wv (.pointer none) z z z (wv (.int .i64 (5:Int)) z z z (wl_nil (tn (wp_ret (then_r ?_)))))))
 replace hst := hst.objO_nil at_session_Table
 obtain rfl := some_inj hm
 refine post_ret (vs := [.pointer none, I6 (5:Int)]) results18 (rvs_cons (rv_tmp z) (rvs_cons (rv_tmp z) rvs_nil)) ?_
 exact ⟨_, .pointer none, z, hI0, hst.keep1⟩
}
 {
 replace hm := bif_f hc646 hm
 refine wp_iff (cvb hc646) ?_
 refine wp_skip (tn (wp_seq (wrl ?_)))
 refine wv (v349) z z z (wv (v349) z z z (wv (.int .i64 (0:Int)) z z z (wl_nil (tn (wp_ret ?_)))))
 replace hst := hst.pull1
 replace hst := objO_some hst
 obtain rfl := some_inj hm
 refine post_ret (vs := [v349, Zi]) results18 (rvs_cons (rv_tmp z) (rvs_cons (rv_tmp z) rvs_nil)) ?_
 exact ⟨_, v349, z, hI0, hst.keep1⟩
}
}
}
}

theorem ref12_Tape_Next_ref {w0 w : World} {I : HL} {R : SP} {a0 : ref12_Tape} {p0 : Value} {a1 : Int}  (hst : St w0 w I [at_ref12_Tape p0 a0] R) {r : (Int × ref12_Tape)} (hm : ref12_Tape_Next a0 a1 = some r) :
  Calls prog 9 #[p0, I6 a1] w fun e w' => e = .returned (.int .i64 r.1) ∧ St w0 w' I [at_ref12_Tape p0 r.2] R := by {
 unfold ref12_Tape_Next at hm
 refine calls_start (args := [p0, I6 a1]) func9 z ntmps9 (Nat.le_of_ble_eq_true z) ?_
 refine wp_seq (wrl (wv (.int .i64 (0:Int)) z z z (wl_nil (tn (wp_seq (wp_seq ?_))))))
 obtain ⟨b82, v83, ⟨rfl, f85⟩, hst'⟩ := at_ref12_Tape_open hst
 clear hst
 have hst := hst'
 clear hst'
 refine wq_regionS hst Try.mixed (by kernel_rfl) ?_
 refine wq_run (v := Pt b82 0) z z (fun w hst => z) ?_
 refine wq_run (v := Pt b82 0) z z (fun w hst => z) ?_
 refine wq_run (v := Pt b82 1) z z (fun w hst => x_field z underlying26 z sizeOf3 z) ?_
 refine wq_run (v := .int .i64 a0.I) z z (fun w hst => x_load z isAgg3 (hst.bc0 z)) ?_
 refine wq_run (v := Pt b82 0) z z (fun w hst => z) ?_
 refine wq_run (v := Pt b82 0) z z (fun w hst => z) ?_
 refine wq_run (v := Pt b82 0) z z (fun w hst => x_field z underlying26 z sizeOf22 z) ?_
 refine wq_run (v := v83) z z (fun w hst => x_load z isAgg22 (hst.bc0 z)) ?_
 refine wq_run (v := .int .i64 ((a0.L).length : Int)) z z (fun w hst => x_len z underlying22 (ro_sliceV f85)) ?_
 refine wq_run (v := .bool (decide (a0.I ≥ ((a0.L).length : Int)))) z z (fun w hst => z) ?_
 refine wq_nil ?_
 intro w hst
 refine tn ?_
 refine bsplit (decide (a0.I ≥ ((a0.L).length : Int))) (fun hc86 => ?_) (fun hc86 => ?_)
 {
 replace hm := bif_t hc86 hm
 refine wp_ift (cvb hc86) ?_
 refine wp_seq (wrl (wv (.int .i64 (0:Int)) z z z (wl_nil (tn (wp_ret (then_r ?_))))))
 replace hst := at_ref12_Tape_close (pv := Pt b82 0) (x := a0) hst ⟨z, f85⟩
 obtain rfl := some_inj hm
 refine post_ret (vs := [Zi]) results9 (rvs_cons (rv_tmp z) rvs_nil) ?_
 exact ⟨z, hst.keep1⟩
}
 {
 replace hm := bif_f hc86 hm
 refine wp_iff (cvb hc86) ?_
 refine wp_skip (tn (wp_seq (wrl ?_)))
 refine wv (Pt b82 0) z z z (wv (Pt b82 0) z z z (wv (Pt b82 1) z z (x_field z underlying26 z sizeOf3 z) (wv (.int .i64 a0.I) z z (x_load z isAgg3 (hst.bc0 z)) (wv (.int .i64 (i64.wrap (a0.I + (1:Int)))) z z z (wv (Pt b82 0) z z z (wv (Pt b82 1) z z (x_field z underlying26 z sizeOf3 z) ?_))))))
 obtain ⟨w87, hr88, hst⟩ := hst.by_ [v83, I6 (i64.wrap (a0.I + (1:Int)))] 1 (.int .i64 (i64.wrap (a0.I + (1:Int)))) sizeOf3 z (oC z oN) (by kernel_rfl)
 refine wl_unit z z (x_unit hr88) ?_
 refine wl_nil (tn (wp_seq ?_))
 refine wq_regionS hst Try.mixed (by kernel_rfl) ?_
 refine wq_run (v := Pt b82 0) z z (fun w hst => z) ?_
 refine wq_run (v := Pt b82 0) z z (fun w hst => z) ?_
 refine wq_run (v := Pt b82 0) z z (fun w hst => x_field z underlying26 z sizeOf22 z) ?_
 refine wq_run (v := v83) z z (fun w hst => x_load z isAgg22 (hst.bc0 z)) ?_
 refine wq_run (v := Pt b82 0) z z (fun w hst => z) ?_
 refine wq_run (v := Pt b82 0) z z (fun w hst => z) ?_
 refine wq_run (v := Pt b82 1) z z (fun w hst => x_field z underlying26 z sizeOf3 z) ?_
 refine wq_run (v := .int .i64 (i64.wrap (a0.I + (1:Int)))) z z (fun w hst => x_load z isAgg3 (hst.bc0 z)) ?_
 refine wq_run (v := .int .i64 (i64.wrap ((i64.wrap (a0.I + (1:Int))) - (1:Int)))) z z (fun w hst => z) ?_
 obtain ⟨x89, hx90, hm⟩ := bind_some hm
 obtain ⟨h91, h92, hi93⟩ := geto_some hx90
 refine wq_run (v := .pointer (some (eAddr v83 ((i64.wrap ((i64.wrap (a0.I + (1:Int))) - (1:Int))).toNat * 1 + 0)))) z z (fun w hst => x_index z z underlying22 sizeOf5 (ro_sliceV f85) h91 h92) ?_
 refine wq_run (v := .int .u8 x89) z z (fun w hst => x_load z isAgg5 (ro_load f85 hst hi93 (by rintro _ rfl; rfl))) ?_
 refine wq_run (v := .int .i64 (i64.wrap x89)) z z (fun w hst => by kernel_rfl) ?_
 refine wq_run (v := .int .i64 a1) z z (fun w hst => z) ?_
 obtain ⟨hg94, hm⟩ := gd_some hm
 refine wq_run (v := .int .i64 (Int.tmod (i64.wrap x89) a1)) z z (fun w hst => x_rem (not_t hg94) z z) ?_
 refine wq_run (v := .int .i64 (Int.tmod (i64.wrap x89) a1)) z z (fun w hst => z) ?_
 refine wq_nil ?_
 intro w hst
 refine tn (wp_ret ?_)
 replace hst := at_ref12_Tape_close (pv := Pt b82 0) (x := ({ L := a0.L, I := (i64.wrap (a0.I + (1:Int))) } : ref12_Tape)) hst ⟨z, f85⟩
 obtain rfl := some_inj hm
 refine post_ret (vs := [I6 (Int.tmod (i64.wrap x89) a1)]) results9 (rvs_cons (rv_tmp z) rvs_nil) ?_
 exact ⟨z, hst.keep1⟩
}
}

theorem ref12_Tape_Val_ref {w0 w : World} {I : HL} {R : SP} {a0 : ref12_Tape} {p0 : Value}  (hst : St w0 w I [at_ref12_Tape p0 a0] R) {r : ((List Int) × ref12_Tape)} (hm : ref12_Tape_Val a0 = some r) :
  Calls prog 20 #[p0] w fun e w' => ∃ (q0_0 : Value), e = .returned (q0_0) ∧ St w0 w' I [ownS (tyInt .u8) q0_0 r.1, at_ref12_Tape p0 r.2] R := by {
 unfold ref12_Tape_Val at hm
 refine calls_start (args := [p0]) func20 z ntmps20 (Nat.le_of_ble_eq_true z) ?_
 refine wp_seq (wrl (wv ((.slice none 0 0)) z z z (wl_nil (tn (wp_seq (wrl (wv ((.slice none 0 0)) z z z (wl_nil (tn (wp_seq (wrl (wv (p0) z z z ?_))))))))))))
 obtain ⟨t295, ht296, hm⟩ := bind_some hm
 refine wc call9 [p0, I6 (4:Int)] z z z ?_
 refine (ref12_Tape_Next_ref hst.to1 ht296).mono ?_
 rintro _ w297 ⟨rfl, hst⟩
 refine ⟨_, z, ?_⟩
 replace hst := hst.of1
 refine wv (.int .i64 t295.1) z z z (wl_nil (tn (wp_seq (wp_seq (wrl (wv (.int .i64 (0:Int)) z z z (wl_nil (tn (wp_block ?_)))))))))
 replace hst := hst.own_nil (tyInt .u8)
 obtain ⟨n356, hm⟩ := loopO_some hm
 refine wp_loop_n (fun n a w => ∃ (z350 : ref12_Tape) (z351 : (List Int)) (z354 : Int) (v352 : Value) (σ355 : Nat → Value), loopN (ref12_Tape_Val_l0 t295) n (z350, z351, z354) = some r ∧ a = Fr 21 (upd (upd (upd (upd σ355 0 (p0)) 3 (v352)) 4 (.int .i64 t295.1)) 5 (.int .i64 z354)) ∧ St w0 w I [ownS (tyInt .u8) v352 z351, at_ref12_Tape p0 z350] R) n356 ⟨t295.2, [], (0:Int), Zs, _, hm, (fu 0 p0 z (fu 3 (.slice none 0 0) z (fu 4 (.int .i64 t295.1) z (fu 5 (.int .i64 (0:Int)) z z)))), hst⟩ ?_
 rintro n362 _ w357 ⟨z350, z351, z354, v352, σ355, hm, rfl, hst⟩
 obtain ⟨n359, y360, rfl, hm, hx361⟩ := loopN_some hm
 dsimp only [ref12_Tape_Val_l0] at hm
 refine wp_seq (wp_seq (wrl (wv (.int .i64 z354) z z z (wv (.int .i64 t295.1) z z z (wv (.bool (decide (z354 < t295.1))) z z z (wl_nil (tn ?_)))))))
 refine bsplit (decide (z354 < t295.1)) (fun hc363 => ?_) (fun hc363 => ?_)
 {
 replace hm := bif_t hc363 hm
 refine wp_ift (cvb hc363) ?_
 refine wp_skip (tn (wp_seq (wp_block (wrl ?_))))
 refine wv (v352) z z z (wv (p0) z z z ?_)
 replace hst := hst.pull1
 obtain ⟨t364, ht365, hm⟩ := bind_some hm
 refine wc call9 [p0, I6 (26:Int)] z z z ?_
 refine (ref12_Tape_Next_ref hst.to1 ht365).mono ?_
 rintro _ w366 ⟨rfl, hst⟩
 refine ⟨_, z, ?_⟩
 replace hst := hst.of1
 refine wv (.int .i64 (i64.wrap ((97:Int) + t364.1))) z z z (wv (.int .u8 (u8.wrap (i64.wrap ((97:Int) + t364.1)))) z z (by kernel_rfl) ?_)
 obtain ⟨b369, w370, ew371, eb372, hst⟩ := hst.lits (E := (tyInt .u8)) (xs := [(u8.wrap (i64.wrap ((97:Int) + t364.1)))]) [[U1 (u8.wrap (i64.wrap ((97:Int) + t364.1)))]] 5 1 z (Reps.cons z Reps.nil)
 refine wl_run (v := (.slice (some ⟨b369, 0, none⟩) 1 1)) (w' := w370) z z (x_als (by kernel_rfl) ew371 eb372) ?_
 obtain ⟨hg374, hm⟩ := gd_some hm
 replace hst := hst.pull2
 obtain ⟨v375, w376, hr377, hst⟩ := run_append elem_22 underlying22 hst hst.src1 (room_of hg374 z) 22
 refine wl_run (v := v375) (w' := w376) z z (x_append z z hr377) ?_
 refine wv (v375) z z z (wl_nil (blk_n (tn (wrl (wv (.int .i64 z354) z z z (wv (.int .i64 (i64.wrap (z354 + (1:Int)))) z z z (wv (.int .i64 (i64.wrap (z354 + (1:Int)))) z z z (wl_nil (tn ?_)))))))))
 replace hst := hst.pull2.pull1.keep2
 obtain rfl := some_inj hm
 exact ⟨_, Nat.lt_succ_self _, t364.2, (z351 ++ ([(u8.wrap (i64.wrap ((97:Int) + t364.1)))])), (i64.wrap (z354 + (1:Int))), v375, _, hx361, (fu 0 p0 z (fu 3 v375 z (fu 4 (.int .i64 t295.1) z (fu 5 (.int .i64 (i64.wrap (z354 + (1:Int)))) z z)))), hst⟩
}
 {
 replace hm := bif_f hc363 hm
 refine wp_iff (cvb hc363) ?_
 refine wp_exit (then_x (then_x ?_))
 replace hm := inr_up hm hx361
 refine blk_x (tn (wp_seq (wrl ?_)))
 refine wv (v352) z z z (wv (v352) z z z (wl_nil (tn (wp_ret ?_))))
 obtain rfl := some_inj hm
 refine post_ret (vs := [v352]) results20 (rvs_cons (rv_tmp z) rvs_nil) ?_
 replace hst := hst.pull1.pull1
 exact ⟨v352, z, hst.keep2⟩
}
}

theorem ref12_small_ref {w0 w : World} {I : HL} {R : SP} {a0 : Int}  (hst : St w0 w I [] R) {r : (Nat)} (hm : ref12_small a0 = some r) :
  Calls prog 37 #[U1 a0] w fun e w' => e = .returned (.float .f64 r) ∧ St w0 w' I [] R := by {
 unfold ref12_small at hm
 refine calls_start (args := [U1 a0]) func37 z ntmps37 (Nat.le_of_ble_eq_true z) ?_
 refine wp_seq (wrl (wv (.float .f64 (0:Nat)) z z z (wl_nil (tn (wp_seq (wrl ?_))))))
 obtain ⟨b380, w381, ew382, eb383, hst⟩ := hst.lits (E := tyF64) (xs := [(0:Nat), (4607182418800017408:Nat), (13830554455654793216:Nat), (4612811918334230528:Nat), (9094988921128908188:Nat), (18318360957983683996:Nat), (4602678819172646912:Nat), (4613937818241073152:Nat)]) [[Zf], [F6 (4607182418800017408:Nat)], [F6 (13830554455654793216:Nat)], [F6 (4612811918334230528:Nat)], [F6 (9094988921128908188:Nat)], [F6 (18318360957983683996:Nat)], [F6 (4602678819172646912:Nat)], [F6 (4613937818241073152:Nat)]] 61 8 z (Reps.cons z (Reps.cons z (Reps.cons z (Reps.cons z (Reps.cons z (Reps.cons z (Reps.cons z (Reps.cons z Reps.nil))))))))
 refine wl_run (v := (.slice (some ⟨b380, 0, none⟩) 8 8)) (w' := w381) z z (x_als (by kernel_rfl) ew382 eb383) ?_
 refine wv ((.slice (some ⟨b380, 0, none⟩) 8 8)) z z z (wl_nil (tn (wp_seq (wrl (wv ((.slice (some ⟨b380, 0, none⟩) 8 8)) z z z (wv (.int .u8 a0) z z z (wv (.int .u8 (Int.tmod a0 (8:Int))) z z (x_rem (by decide) z z) ?_)))))))
 obtain ⟨x385, hx386, hm⟩ := bind_some hm
 obtain ⟨h387, h388, hi389⟩ := geto_some hx386
 refine wv (.pointer (some (eAddr (.slice (some ⟨b380, 0, none⟩) 8 8) ((Int.tmod a0 (8:Int)).toNat * 1 + 0)))) z z (x_index z z underlying100 sizeOf61 hst.sv0 h387 h388) (wv (.float .f64 x385) z z (x_load z isAgg61 (hst.ol0 hi389 (by rintro _ rfl; rfl))) (wv (.float .f64 x385) z z z (wl_nil (tn (wp_ret ?_)))))
 obtain rfl := some_inj hm
 refine post_ret (vs := [F6 x385]) results37 (rvs_cons (rv_tmp z) rvs_nil) ?_
 exact ⟨z, hst.keep0⟩
}

theorem ref12_Tape_Float_ref {w0 w : World} {I : HL} {R : SP} {a0 : ref12_Tape} {p0 : Value}  (hst : St w0 w I [at_ref12_Tape p0 a0] R) {r : (Nat × ref12_Tape)} (hm : ref12_Tape_Float a0 = some r) :
  Calls prog 21 #[p0] w fun e w' => e = .returned (.float .f64 r.1) ∧ St w0 w' I [at_ref12_Tape p0 r.2] R := by {
 unfold ref12_Tape_Float at hm
 refine calls_start (args := [p0]) func21 z ntmps21 (Nat.le_of_ble_eq_true z) ?_
 refine wp_seq (wrl (wv (.float .f64 (0:Nat)) z z z (wl_nil (tn (wp_seq (wrl (wv (p0) z z z ?_)))))))
 obtain ⟨t376, ht377, hm⟩ := bind_some hm
 refine wc call9 [p0, I6 (8:Int)] z z z ?_
 refine (ref12_Tape_Next_ref hst.to1 ht377).mono ?_
 rintro _ w378 ⟨rfl, hst⟩
 refine ⟨_, z, ?_⟩
 replace hst := hst.of1
 refine wv (.int .u8 (u8.wrap t376.1)) z z (by kernel_rfl) ?_
 obtain ⟨t381, ht382, hm⟩ := bind_some hm
 refine wc call37 [U1 (u8.wrap t376.1)] z z z ?_
 refine (ref12_small_ref hst.to0 ht382).mono ?_
 rintro _ w383 ⟨rfl, hst⟩
 refine ⟨_, z, ?_⟩
 replace hst := hst.of0
 refine wv (.float .f64 t381) z z z (wl_nil (tn (wp_ret ?_)))
 obtain rfl := some_inj hm
 refine post_ret (vs := [F6 t381]) results21 (rvs_cons (rv_tmp z) rvs_nil) ?_
 exact ⟨z, hst.keep1⟩
}

theorem ref13_OfReply_ref {w0 w : World} {I : HL} {R : SP} {a0 : ref12_Tape} {p0 : Value}  (hst : St w0 w I [at_ref12_Tape p0 a0] R) {r : (api_Reply × ref12_Tape)} (hm : ref13_OfReply a0 = some r) :
  Calls prog 10 #[p0] w fun e w' => ∃ (I' : HL) (q0_0 : Value) (q0_1 : Value), e = .returned (.agg #[I6 r.1.E, U6 r.1.Epoch, U6 r.1.Index, q0_0, q0_1]) ∧ I.le I' ∧ St w0 w' I' [ownS ty_api_Got q0_0 r.1.Gots, ownS (tySl ty_api_Pair) q0_1 r.1.Scans, at_ref12_Tape p0 r.2] R := by {
 unfold ref13_OfReply at hm
 refine calls_start (args := [p0]) func10 z ntmps10 (Nat.le_of_ble_eq_true z) ?_
 have hI0 := HL.le.refl I
 refine wp_seq (wrl ?_)
 obtain ⟨b1020, w1021, ew1022, eb1023, hst⟩ := hst.box [Zi, Zu, Zu, Zs, Zs] 36
 refine wl_run (v := Pt b1020 0) (w' := w1021) z z (x_al (by kernel_rfl) ew1022 eb1023) ?_
 refine wl_nil (tn (wp_seq (wrl ?_)))
 obtain ⟨b1025, w1026, ew1027, eb1028, hst⟩ := hst.lits (E := (tyInt .i64)) (xs := [(0:Int), (0:Int), (0:Int), (8:Int), (9:Int), (3:Int)]) [[Zi], [Zi], [Zi], [I6 (8:Int)], [I6 (9:Int)], [I6 (3:Int)]] 32 6 z (Reps.cons z (Reps.cons z (Reps.cons z (Reps.cons z (Reps.cons z (Reps.cons z Reps.nil))))))
 refine wl_run (v := (.slice (some ⟨b1025, 0, none⟩) 6 6)) (w' := w1026) z z (x_als (by kernel_rfl) ew1027 eb1028) ?_
 refine wv ((.slice (some ⟨b1025, 0, none⟩) 6 6)) z z z (wl_nil (tn (wp_seq ?_)))
 obtain ⟨y1137, hm, hx1138⟩ := bind_some hm
 refine wp_mid (fun a w => ∃ (z1129 : ref12_Tape) (z1132 : Int) (z1133 : Int) (z1134 : Int) (b1131 : Nat) (σ1135 : Nat → Value), (ref13_OfReply_j0) (z1129, z1132, z1133, z1134) = some r ∧ a = Fr 72 (upd (upd (upd σ1135 0 (p0)) 2 (Pt b1020 0)) 4 (Pt b1131 0)) ∧ St w0 w I [at_ref12_Tape p0 z1129, cells b1020 [Zi, Zu, Zu, Zs, Zs], cells b1131 [I6 z1132, U6 z1133, U6 z1134, Zs, Zs]] R) ?_ ?_
 {
 refine wp_region_St hst 14 [0, 1, 2, 3, 4, 5, 6, 7, 8, 9, 10, 11, 12, 13] [0, 0, 2, 7, 15, 0, 38, 102, 0, 358, 870, 2047, 0, 8191] [] z (by kernel_rfl) (by kernel_rfl) Try.mixed (by kernel_rfl) ?_
 refine wsr ((.slice (some ⟨b1025, 0, none⟩) 6 6)) 0 z z z (by kernel_rfl) (fun w hst => z) (wsr (p0) 1 z z z (by kernel_rfl) (fun w hst => z) (wsr (p0) 5 z z z (by kernel_rfl) (fun w hst => z) (wsr (p0) 8 z z z (by kernel_rfl) (fun w hst => z) ?_)))
 refine ws_e2 2 12 (by kernel_rfl) ?_ ?_
 {
 refine nxe [3, 4, 6, 7, 9, 10, 11, 12, 13] (by kernel_rfl) z z ?_
 clear hst
 intro w hst
 replace hst := hst.pull2
 obtain ⟨t1030, ht1031, hm⟩ := bind_some hm
 refine wec call9 [p0, I6 (6:Int)] z z ?_
 refine (ref12_Tape_Next_ref hst.to1 ht1031).mono ?_
 rintro _ w1032 ⟨rfl, hst⟩
 refine ⟨_, z, ?_⟩
 replace hst := hst.of1
 refine ws_next (pend' := [(8, p0), (5, p0), (0, (.slice (some ⟨b1025, 0, none⟩) 6 6))]) hst (by kernel_rfl) (pkr z z (fun w hst => z) (pkr z z (fun w hst => z) (pkr z z (fun w hst => z) pk_nil))) ?_
 obtain ⟨x1035, hx1036, hm⟩ := bind_some hm
 obtain ⟨h1037, h1038, hi1039⟩ := geto_some hx1036
 refine wsr (.pointer (some (eAddr (.slice (some ⟨b1025, 0, none⟩) 6 6) (t1030.1.toNat * 1 + 0)))) 3 z z z (by kernel_rfl) (fun w hst => x_index z z underlying57 sizeOf32 hst.sv1 h1037 h1038) (wsr (.int .i64 x1035) 4 z z z (by kernel_rfl) (fun w hst => x_load z isAgg32 (hst.ol1 hi1039 (by rintro _ rfl; rfl))) ?_)
 refine ws_e2 6 12 (by kernel_rfl) ?_ ?_
 {
 refine nxe [7, 9, 10, 11, 12, 13] (by kernel_rfl) z z ?_
 clear hst
 intro w hst
 obtain ⟨t1040, ht1041, hm⟩ := bind_some hm
 refine wec call9 [p0, I6 (4:Int)] z z ?_
 refine (ref12_Tape_Next_ref hst.to1 ht1041).mono ?_
 rintro _ w1042 ⟨rfl, hst⟩
 refine ⟨_, z, ?_⟩
 replace hst := hst.of1
 refine ws_next (pend' := [(4, I6 x1035), (3, .pointer (some (eAddr (.slice (some ⟨b1025, 0, none⟩) 6 6) (t1030.1.toNat * 1 + 0)))), (8, p0), (0, (.slice (some ⟨b1025, 0, none⟩) 6 6))]) hst (by kernel_rfl) (pkr z z (fun w hst => x_load z isAgg32 (hst.ol1 hi1039 (by rintro _ rfl; rfl))) (pkr z z (fun w hst => x_index z z underlying57 sizeOf32 hst.sv1 h1037 h1038) (pkr z z (fun w hst => z) (pkr z z (fun w hst => z) pk_nil)))) ?_
 refine wsr (.int .u64 (u64.wrap t1040.1)) 7 z z z (by kernel_rfl) (fun w hst => by kernel_rfl) ?_
 refine ws_e2 9 12 (by kernel_rfl) ?_ ?_
 {
 refine nxe [10, 11, 12, 13] (by kernel_rfl) z z ?_
 clear hst
 intro w hst
 obtain ⟨t1045, ht1046, hm⟩ := bind_some hm
 refine wec call9 [p0, I6 (9:Int)] z z ?_
 refine (ref12_Tape_Next_ref hst.to1 ht1046).mono ?_
 rintro _ w1047 ⟨rfl, hst⟩
 refine ⟨_, z, ?_⟩
 replace hst := hst.of1
 refine ws_next (pend' := [(7, U6 (u64.wrap t1040.1)), (4, I6 x1035), (3, .pointer (some (eAddr (.slice (some ⟨b1025, 0, none⟩) 6 6) (t1030.1.toNat * 1 + 0)))), (0, (.slice (some ⟨b1025, 0, none⟩) 6 6))]) hst (by kernel_rfl) (pkr z z (fun w hst => by kernel_rfl) (pkr z z (fun w hst => x_load z isAgg32 (hst.ol1 hi1039 (by rintro _ rfl; rfl))) (pkr z z (fun w hst => x_index z z underlying57 sizeOf32 hst.sv1 h1037 h1038) (pkr z z (fun w hst => z) pk_nil)))) ?_
 refine wsr (.int .u64 (u64.wrap t1045.1)) 10 z z z (by kernel_rfl) (fun w hst => by kernel_rfl) (wsr (.agg #[I6 x1035, U6 (u64.wrap t1040.1), U6 (u64.wrap t1045.1), Zs, Zs]) 11 z z z (by kernel_rfl) (fun w hst => by kernel_rfl) ?_)
 refine ws_e1 12 (by kernel_rfl) ?_
 refine nxe [13] (by kernel_rfl) z z ?_
 clear hst
 intro w hst
 obtain ⟨b1054, w1055, ew1056, eb1057, hst⟩ := hst.box [Zi, Zu, Zu, Zs, Zs] 36
 refine we_run (v := Pt b1054 0) (w' := w1055) z (x_al (by kernel_rfl) ew1056 eb1057) ?_
 refine ws_next (pend' := [(11, .agg #[I6 x1035, U6 (u64.wrap t1040.1), U6 (u64.wrap t1045.1), Zs, Zs]), (10, U6 (u64.wrap t1045.1)), (7, U6 (u64.wrap t1040.1)), (4, I6 x1035), (3, .pointer (some (eAddr (.slice (some ⟨b1025, 0, none⟩) 6 6) (t1030.1.toNat * 1 + 0)))), (0, (.slice (some ⟨b1025, 0, none⟩) 6 6))]) hst (by kernel_rfl) (pkr z z (fun w hst => by kernel_rfl) (pkr z z (fun w hst => by kernel_rfl) (pkr z z (fun w hst => by kernel_rfl) (pkr z z (fun w hst => x_load z isAgg32 (hst.ol2 hi1039 (by rintro _ rfl; rfl))) (pkr z z (fun w hst => x_index z z underlying57 sizeOf32 hst.sv2 h1037 h1038) (pkr z z (fun w hst => z) pk_nil)))))) ?_
 refine ws_e1 13 (by kernel_rfl) ?_
 refine nxe [] (by kernel_rfl) z z ?_
 clear hst
 intro w hst
 obtain ⟨w1059, hr1060, hst⟩ := hst.bx [I6 x1035, U6 (u64.wrap t1040.1), U6 (u64.wrap t1045.1), Zs, Zs] sizeOf36 z (oC z (oC z (oC z (oC z (oC z oN))))) (by kernel_rfl)
 refine we_unit z (x_unit hr1060) ?_
 refine ws_next (pend' := []) hst (by kernel_rfl) pk_nil ?_
 refine ws_nil ?_
 intro w hst
 refine ⟨z, ?_⟩
 replace hst := hst.pull3.pull2.keep3
 obtain rfl := some_inj hm
 exact ⟨t1045.2, x1035, (u64.wrap t1040.1), (u64.wrap t1045.1), b1054, _, hx1138, (fu 0 p0 z (fu 2 (Pt b1020 0) z (fu 4 (Pt b1054 0) z z))), hst⟩
}
 {
 refine nxe [9, 10, 11, 13] (by kernel_rfl) z z ?_
 clear hst
 intro w hst
 obtain ⟨b1063, w1064, ew1065, eb1066, hst⟩ := hst.box [Zi, Zu, Zu, Zs, Zs] 36
 refine we_run (v := Pt b1063 0) (w' := w1064) z (x_al (by kernel_rfl) ew1065 eb1066) ?_
 refine ws_next (pend' := [(7, U6 (u64.wrap t1040.1)), (4, I6 x1035), (3, .pointer (some (eAddr (.slice (some ⟨b1025, 0, none⟩) 6 6) (t1030.1.toNat * 1 + 0)))), (8, p0), (0, (.slice (some ⟨b1025, 0, none⟩) 6 6))]) hst (by kernel_rfl) (pkr z z (fun w hst => by kernel_rfl) (pkr z z (fun w hst => x_load z isAgg32 (hst.ol2 hi1039 (by rintro _ rfl; rfl))) (pkr z z (fun w hst => x_index z z underlying57 sizeOf32 hst.sv2 h1037 h1038) (pkr z z (fun w hst => z) (pkr z z (fun w hst => z) pk_nil))))) ?_
 refine ws_e1 9 (by kernel_rfl) ?_
 refine nxe [10, 11, 13] (by kernel_rfl) z z ?_
 clear hst
 intro w hst
 replace hst := hst.pull1
 obtain ⟨t1068, ht1069, hm⟩ := bind_some hm
 refine wec call9 [p0, I6 (9:Int)] z z ?_
 refine (ref12_Tape_Next_ref hst.to1 ht1069).mono ?_
 rintro _ w1070 ⟨rfl, hst⟩
 refine ⟨_, z, ?_⟩
 replace hst := hst.of1
 refine ws_next (pend' := [(7, U6 (u64.wrap t1040.1)), (4, I6 x1035), (3, .pointer (some (eAddr (.slice (some ⟨b1025, 0, none⟩) 6 6) (t1030.1.toNat * 1 + 0)))), (0, (.slice (some ⟨b1025, 0, none⟩) 6 6))]) hst (by kernel_rfl) (pkr z z (fun w hst => by kernel_rfl) (pkr z z (fun w hst => x_load z isAgg32 (hst.ol2 hi1039 (by rintro _ rfl; rfl))) (pkr z z (fun w hst => x_index z z underlying57 sizeOf32 hst.sv2 h1037 h1038) (pkr z z (fun w hst => z) pk_nil)))) ?_
 refine wsr (.int .u64 (u64.wrap t1068.1)) 10 z z z (by kernel_rfl) (fun w hst => by kernel_rfl) (wsr (.agg #[I6 x1035, U6 (u64.wrap t1040.1), U6 (u64.wrap t1068.1), Zs, Zs]) 11 z z z (by kernel_rfl) (fun w hst => by kernel_rfl) ?_)
 refine ws_e1 13 (by kernel_rfl) ?_
 refine nxe [] (by kernel_rfl) z z ?_
 clear hst
 intro w hst
 replace hst := hst.pull1
 obtain ⟨w1075, hr1076, hst⟩ := hst.bx [I6 x1035, U6 (u64.wrap t1040.1), U6 (u64.wrap t1068.1), Zs, Zs] sizeOf36 z (oC z (oC z (oC z (oC z (oC z oN))))) (by kernel_rfl)
 refine we_unit z (x_unit hr1076) ?_
 refine ws_next (pend' := []) hst (by kernel_rfl) pk_nil ?_
 refine ws_nil ?_
 intro w hst
 refine ⟨z, ?_⟩
 replace hst := hst.pull3.pull2.keep3
 obtain rfl := some_inj hm
 exact ⟨t1068.2, x1035, (u64.wrap t1040.1), (u64.wrap t1068.1), b1063, _, hx1138, (fu 0 p0 z (fu 2 (Pt b1020 0) z (fu 4 (Pt b1063 0) z z))), hst⟩
}
}
 {
 refine nxe [6, 7, 9, 10, 11, 13] (by kernel_rfl) z z ?_
 clear hst
 intro w hst
 obtain ⟨b1079, w1080, ew1081, eb1082, hst⟩ := hst.box [Zi, Zu, Zu, Zs, Zs] 36
 refine we_run (v := Pt b1079 0) (w' := w1080) z (x_al (by kernel_rfl) ew1081 eb1082) ?_
 refine ws_next (pend' := [(4, I6 x1035), (3, .pointer (some (eAddr (.slice (some ⟨b1025, 0, none⟩) 6 6) (t1030.1.toNat * 1 + 0)))), (8, p0), (5, p0), (0, (.slice (some ⟨b1025, 0, none⟩) 6 6))]) hst (by kernel_rfl) (pkr z z (fun w hst => x_load z isAgg32 (hst.ol2 hi1039 (by rintro _ rfl; rfl))) (pkr z z (fun w hst => x_index z z underlying57 sizeOf32 hst.sv2 h1037 h1038) (pkr z z (fun w hst => z) (pkr z z (fun w hst => z) (pkr z z (fun w hst => z) pk_nil))))) ?_
 refine ws_e1 6 (by kernel_rfl) ?_
 refine nxe [7, 9, 10, 11, 13] (by kernel_rfl) z z ?_
 clear hst
 intro w hst
 replace hst := hst.pull1
 obtain ⟨t1084, ht1085, hm⟩ := bind_some hm
 refine wec call9 [p0, I6 (4:Int)] z z ?_
 refine (ref12_Tape_Next_ref hst.to1 ht1085).mono ?_
 rintro _ w1086 ⟨rfl, hst⟩
 refine ⟨_, z, ?_⟩
 replace hst := hst.of1
 refine ws_next (pend' := [(4, I6 x1035), (3, .pointer (some (eAddr (.slice (some ⟨b1025, 0, none⟩) 6 6) (t1030.1.toNat * 1 + 0)))), (8, p0), (0, (.slice (some ⟨b1025, 0, none⟩) 6 6))]) hst (by kernel_rfl) (pkr z z (fun w hst => x_load z isAgg32 (hst.ol2 hi1039 (by rintro _ rfl; rfl))) (pkr z z (fun w hst => x_index z z underlying57 sizeOf32 hst.sv2 h1037 h1038) (pkr z z (fun w hst => z) (pkr z z (fun w hst => z) pk_nil)))) ?_
 refine wsr (.int .u64 (u64.wrap t1084.1)) 7 z z z (by kernel_rfl) (fun w hst => by kernel_rfl) ?_
 refine ws_e1 9 (by kernel_rfl) ?_
 refine nxe [10, 11, 13] (by kernel_rfl) z z ?_
 clear hst
 intro w hst
 obtain ⟨t1089, ht1090, hm⟩ := bind_some hm
 refine wec call9 [p0, I6 (9:Int)] z z ?_
 refine (ref12_Tape_Next_ref hst.to1 ht1090).mono ?_
 rintro _ w1091 ⟨rfl, hst⟩
 refine ⟨_, z, ?_⟩
 replace hst := hst.of1
 refine ws_next (pend' := [(7, U6 (u64.wrap t1084.1)), (4, I6 x1035), (3, .pointer (some (eAddr (.slice (some ⟨b1025, 0, none⟩) 6 6) (t1030.1.toNat * 1 + 0)))), (0, (.slice (some ⟨b1025, 0, none⟩) 6 6))]) hst (by kernel_rfl) (pkr z z (fun w hst => by kernel_rfl) (pkr z z (fun w hst => x_load z isAgg32 (hst.ol2 hi1039 (by rintro _ rfl; rfl))) (pkr z z (fun w hst => x_index z z underlying57 sizeOf32 hst.sv2 h1037 h1038) (pkr z z (fun w hst => z) pk_nil)))) ?_
 refine wsr (.int .u64 (u64.wrap t1089.1)) 10 z z z (by kernel_rfl) (fun w hst => by kernel_rfl) (wsr (.agg #[I6 x1035, U6 (u64.wrap t1084.1), U6 (u64.wrap t1089.1), Zs, Zs]) 11 z z z (by kernel_rfl) (fun w hst => by kernel_rfl) ?_)
 refine ws_e1 13 (by kernel_rfl) ?_
 refine nxe [] (by kernel_rfl) z z ?_
 clear hst
 intro w hst
 replace hst := hst.pull1
 obtain ⟨w1096, hr1097, hst⟩ := hst.bx [I6 x1035, U6 (u64.wrap t1084.1), U6 (u64.wrap t1089.1), Zs, Zs] sizeOf36 z (oC z (oC z (oC z (oC z (oC z oN))))) (by kernel_rfl)
 refine we_unit z (x_unit hr1097) ?_
 refine ws_next (pend' := []) hst (by kernel_rfl) pk_nil ?_
 refine ws_nil ?_
 intro w hst
 refine ⟨z, ?_⟩
 replace hst := hst.pull3.pull2.keep3
 obtain rfl := some_inj hm
 exact ⟨t1089.2, x1035, (u64.wrap t1084.1), (u64.wrap t1089.1), b1079, _, hx1138, (fu 0 p0 z (fu 2 (Pt b1020 0) z (fu 4 (Pt b1079 0) z z))), hst⟩
}
}
 {
 refine nxe [2, 3, 4, 6, 7, 9, 10, 11, 13] (by kernel_rfl) z z ?_
 clear hst
 intro w hst
 obtain ⟨b1100, w1101, ew1102, eb1103, hst⟩ := hst.box [Zi, Zu, Zu, Zs, Zs] 36
 refine we_run (v := Pt b1100 0) (w' := w1101) z (x_al (by kernel_rfl) ew1102 eb1103) ?_
 refine ws_next (pend' := [(8, p0), (5, p0), (1, p0), (0, (.slice (some ⟨b1025, 0, none⟩) 6 6))]) hst (by kernel_rfl) (pkr z z (fun w hst => z) (pkr z z (fun w hst => z) (pkr z z (fun w hst => z) (pkr z z (fun w hst => z) pk_nil)))) ?_
 refine ws_e1 2 (by kernel_rfl) ?_
 refine nxe [3, 4, 6, 7, 9, 10, 11, 13] (by kernel_rfl) z z ?_
 clear hst
 intro w hst
 replace hst := hst.pull3
 obtain ⟨t1105, ht1106, hm⟩ := bind_some hm
 refine wec call9 [p0, I6 (6:Int)] z z ?_
 refine (ref12_Tape_Next_ref hst.to1 ht1106).mono ?_
 rintro _ w1107 ⟨rfl, hst⟩
 refine ⟨_, z, ?_⟩
 replace hst := hst.of1
 refine ws_next (pend' := [(8, p0), (5, p0), (0, (.slice (some ⟨b1025, 0, none⟩) 6 6))]) hst (by kernel_rfl) (pkr z z (fun w hst => z) (pkr z z (fun w hst => z) (pkr z z (fun w hst => z) pk_nil))) ?_
 obtain ⟨x1110, hx1111, hm⟩ := bind_some hm
 obtain ⟨h1112, h1113, hi1114⟩ := geto_some hx1111
 refine wsr (.pointer (some (eAddr (.slice (some ⟨b1025, 0, none⟩) 6 6) (t1105.1.toNat * 1 + 0)))) 3 z z z (by kernel_rfl) (fun w hst => x_index z z underlying57 sizeOf32 hst.sv2 h1112 h1113) (wsr (.int .i64 x1110) 4 z z z (by kernel_rfl) (fun w hst => x_load z isAgg32 (hst.ol2 hi1114 (by rintro _ rfl; rfl))) ?_)
 refine ws_e1 6 (by kernel_rfl) ?_
 refine nxe [7, 9, 10, 11, 13] (by kernel_rfl) z z ?_
 clear hst
 intro w hst
 obtain ⟨t1115, ht1116, hm⟩ := bind_some hm
 refine wec call9 [p0, I6 (4:Int)] z z ?_
 refine (ref12_Tape_Next_ref hst.to1 ht1116).mono ?_
 rintro _ w1117 ⟨rfl, hst⟩
 refine ⟨_, z, ?_⟩
 replace hst := hst.of1
 refine ws_next (pend' := [(4, I6 x1110), (3, .pointer (some (eAddr (.slice (some ⟨b1025, 0, none⟩) 6 6) (t1105.1.toNat * 1 + 0)))), (8, p0), (0, (.slice (some ⟨b1025, 0, none⟩) 6 6))]) hst (by kernel_rfl) (pkr z z (fun w hst => x_load z isAgg32 (hst.ol2 hi1114 (by rintro _ rfl; rfl))) (pkr z z (fun w hst => x_index z z underlying57 sizeOf32 hst.sv2 h1112 h1113) (pkr z z (fun w hst => z) (pkr z z (fun w hst => z) pk_nil)))) ?_
 refine wsr (.int .u64 (u64.wrap t1115.1)) 7 z z z (by kernel_rfl) (fun w hst => by kernel_rfl) ?_
 refine ws_e1 9 (by kernel_rfl) ?_
 refine nxe [10, 11, 13] (by kernel_rfl) z z ?_
 clear hst
 intro w hst
 obtain ⟨t1120, ht1121, hm⟩ := bind_some hm
 refine wec call9 [p0, I6 (9:Int)] z z ?_
 refine (ref12_Tape_Next_ref hst.to1 ht1121).mono ?_
 rintro _ w1122 ⟨rfl, hst⟩
 refine ⟨_, z, ?_⟩
 replace hst := hst.of1
 refine ws_next (pend' := [(7, U6 (u64.wrap t1115.1)), (4, I6 x1110), (3, .pointer (some (eAddr (.slice (some ⟨b1025, 0, none⟩) 6 6) (t1105.1.toNat * 1 + 0)))), (0, (.slice (some ⟨b1025, 0, none⟩) 6 6))]) hst (by kernel_rfl) (pkr z z (fun w hst => by kernel_rfl) (pkr z z (fun w hst => x_load z isAgg32 (hst.ol2 hi1114 (by rintro _ rfl; rfl))) (pkr z z (fun w hst => x_index z z underlying57 sizeOf32 hst.sv2 h1112 h1113) (pkr z z (fun w hst => z) pk_nil)))) ?_
 refine wsr (.int .u64 (u64.wrap t1120.1)) 10 z z z (by kernel_rfl) (fun w hst => by kernel_rfl) (wsr (.agg #[I6 x1110, U6 (u64.wrap t1115.1), U6 (u64.wrap t1120.1), Zs, Zs]) 11 z z z (by kernel_rfl) (fun w hst => by kernel_rfl) ?_)
 refine ws_e1 13 (by kernel_rfl) ?_
 refine nxe [] (by kernel_rfl) z z ?_
 clear hst
 intro w hst
 replace hst := hst.pull1
 obtain ⟨w1127, hr1128, hst⟩ := hst.bx [I6 x1110, U6 (u64.wrap t1115.1), U6 (u64.wrap t1120.1), Zs, Zs] sizeOf36 z (oC z (oC z (oC z (oC z (oC z oN))))) (by kernel_rfl)
 refine we_unit z (x_unit hr1128) ?_
 refine ws_next (pend' := []) hst (by kernel_rfl) pk_nil ?_
 refine ws_nil ?_
 intro w hst
 refine ⟨z, ?_⟩
 replace hst := hst.pull3.pull2.keep3
 obtain rfl := some_inj hm
 exact ⟨t1120.2, x1110, (u64.wrap t1115.1), (u64.wrap t1120.1), b1100, _, hx1138, (fu 0 p0 z (fu 2 (Pt b1020 0) z (fu 4 (Pt b1100 0) z z))), hst⟩
}
}
 {
 clear hst
 rintro _ w1139 ⟨z1129, z1132, z1133, z1134, b1131, σ1135, hm, rfl, hst⟩
 dsimp only [ref13_OfReply_j0] at hm
 refine tn (wp_seq (wrl (wv (p0) z z z ?_)))
 obtain ⟨t1140, ht1141, hm⟩ := bind_some hm
 refine wc call9 [p0, I6 (3:Int)] z z z ?_
 refine (ref12_Tape_Next_ref hst.to1 ht1141).mono ?_
 rintro _ w1142 ⟨rfl, hst⟩
 refine ⟨_, z, ?_⟩
 replace hst := hst.of1
 refine wv (.int .i64 t1140.1) z z z (wl_nil (tn ?_))
 obtain ⟨y1287, hm, hx1288⟩ := bind_some hm
 refine wp_cut (fun a w => ∃ (I1284 : HL) (z1280 : ref12_Tape) (z1283 : (List api_Got)) (v1282 : Value) (σ1285 : Nat → Value), (ref13_OfReply_j1 z1132 z1133 z1134) (z1280, z1283) = some r ∧ a = Fr 72 (upd (upd (upd σ1285 0 (p0)) 2 (Pt b1020 0)) 4 (Pt b1131 0)) ∧ I.le I1284 ∧ St w0 w I1284 [at_ref12_Tape p0 z1280, cells b1020 [Zi, Zu, Zu, Zs, Zs], cells b1131 [I6 z1132, U6 z1133, U6 z1134, v1282, Zs], ownS ty_api_Got v1282 z1283] R) ?_ ?_
 {
 have hL1289 := HL.le.refl I
 refine wp_seq (wrl (wv (.int .i64 (0:Int)) z z z (wl_nil (tn (wp_block ?_)))))
 replace hst := hst.own_nil ty_api_Got
 obtain ⟨n1244, hm⟩ := loopO_some hm
 refine wp_loop_n (fun n a w => ∃ (I1242 : HL) (z1237 : (List api_Got)) (z1240 : ref12_Tape) (z1241 : Int) (v1238 : Value) (σ1243 : Nat → Value), loopN (ref13_OfReply_l2 t1140) n (z1237, z1240, z1241) = some y1287 ∧ a = Fr 72 (upd (upd (upd (upd (upd σ1243 0 (p0)) 2 (Pt b1020 0)) 4 (Pt b1131 0)) 5 (.int .i64 t1140.1)) 6 (.int .i64 z1241)) ∧ I.le I1242 ∧ St w0 w I1242 [ownS ty_api_Got v1238 z1237, at_ref12_Tape p0 z1240, cells b1020 [Zi, Zu, Zu, Zs, Zs], cells b1131 [I6 z1132, U6 z1133, U6 z1134, v1238, Zs]] R) n1244 ⟨_, [], t1140.2, (0:Int), Zs, _, hm, (fu 0 p0 z (fu 2 (Pt b1020 0) z (fu 4 (Pt b1131 0) z (fu 5 (.int .i64 t1140.1) z (fu 6 (.int .i64 (0:Int)) z z))))), (HL.le.refl _), hst⟩ ?_
 rintro n1250 _ w1245 ⟨I1242, z1237, z1240, z1241, v1238, σ1243, hm, rfl, hL1246, hst⟩
 obtain ⟨n1247, y1248, rfl, hm, hx1249⟩ := loopN_some hm
 dsimp only [ref13_OfReply_l2] at hm
 replace hI0 := hI0.trans hL1246
 replace hL1289 := hL1289.trans hL1246
 refine wp_seq (wp_seq (wrl (wv (.int .i64 z1241) z z z (wv (.int .i64 t1140.1) z z z (wv (.bool (decide (z1241 < t1140.1))) z z z (wl_nil (tn ?_)))))))
 refine bsplit (decide (z1241 < t1140.1)) (fun hc1251 => ?_) (fun hc1251 => ?_)
 {
 replace hm := bif_t hc1251 hm
 refine wp_ift (cvb hc1251) ?_
 refine wp_skip (tn (wp_seq (wp_block ?_)))
 refine wp_region_St hst 12 [0, 1, 2, 3, 4, 5, 6, 7, 8, 9, 10, 11] [0, 1, 0, 4, 12, 0, 44, 124, 252, 511, 1023, 2047] [] z (by kernel_rfl) (by kernel_rfl) Try.mixed (by kernel_rfl) ?_
 refine wsr (Pt b1131 3) 0 z z z (by kernel_rfl) (fun w hst => x_field z underlying36 z sizeOf33 z) (wsr (v1238) 1 z z z (by kernel_rfl) (fun w hst => x_load z isAgg33 (hst.bc3 z)) (wsr (p0) 2 z z z (by kernel_rfl) (fun w hst => z) (wsr (p0) 5 z z z (by kernel_rfl) (fun w hst => z) ?_)))
 refine ws_e1 3 (by kernel_rfl) ?_
 refine nxe [4, 6, 7, 8, 9, 10, 11] (by kernel_rfl) z z ?_
 clear hst
 intro w hst
 replace hst := hst.pull1
 obtain ⟨t1252, ht1253, hm⟩ := bind_some hm
 refine wec call9 [p0, I6 (2:Int)] z z ?_
 refine (ref12_Tape_Next_ref hst.to1 ht1253).mono ?_
 rintro _ w1254 ⟨rfl, hst⟩
 refine ⟨_, z, ?_⟩
 replace hst := hst.of1
 refine ws_next (pend' := [(5, p0), (1, v1238), (0, Pt b1131 3)]) hst (by kernel_rfl) (pkr z z (fun w hst => z) (pkr z z (fun w hst => x_load z isAgg33 (hst.bc3 z)) (pkr z z (fun w hst => x_field z underlying36 z sizeOf33 z) pk_nil))) ?_
 refine wsr (.bool (t1252.1 == (0:Int))) 4 z z z (by kernel_rfl) (fun w hst => z) ?_
 refine ws_e1 6 (by kernel_rfl) ?_
 refine nxe [7, 8, 9, 10, 11] (by kernel_rfl) z z ?_
 clear hst
 intro w hst
 obtain ⟨t1257, ht1258, hm⟩ := bind_some hm
 refine wec call20 [p0] z z ?_
 refine (ref12_Tape_Val_ref hst.to1 ht1258).mono ?_
 rintro _ w1259 ⟨v1262, rfl, hst⟩
 refine ⟨_, z, ?_⟩
 replace hst := hst.of2
 refine ws_next (pend' := [(4, .bool (t1252.1 == (0:Int))), (1, v1238), (0, Pt b1131 3)]) hst (by kernel_rfl) (pkr z z (fun w hst => z) (pkr z z (fun w hst => x_load z isAgg33 (hst.bc4 z)) (pkr z z (fun w hst => x_field z underlying36 z sizeOf33 z) pk_nil))) ?_
 refine wsr (.agg #[.bool (t1252.1 == (0:Int)), v1262]) 7 rfl rfl rfl (by kernel_rfl) (fun w hst => by obtain ⟨_, _, hv_, _⟩ := hst.sv0; rw [hv_]; kernel_rfl) ?_
 refine ws_e1 8 (by kernel_rfl) ?_
 refine nxe [9, 10, 11] (by kernel_rfl) z z ?_
 clear hst
 intro w hst
 obtain ⟨I1266, hI1267, f1268, hst⟩ := hst.own_fix
 replace hI0 := hI0.trans hI1267
 replace hL1289 := hL1289.trans hI1267
 replace hL1246 := hL1246.trans hI1267
 obtain ⟨b1269, w1270, ew1271, eb1272, hst⟩ := hst.lits (E := ty_api_Got) (xs := [({ Has := (t1252.1 == (0:Int)), Val := t1257.1 } : api_Got)]) [[.bool (t1252.1 == (0:Int)), v1262]] 59 1 z (Reps.cons ⟨_, z, f1268, one_of_sliceV (ro_sliceV f1268)⟩ Reps.nil)
 refine we_run (v := (.slice (some ⟨b1269, 0, none⟩) 1 1)) (w' := w1270) z (x_als (by kernel_rfl) ew1271 eb1272) ?_
 refine ws_next (pend' := [(1, v1238), (0, Pt b1131 3)]) hst (by kernel_rfl) (pkr z z (fun w hst => x_load z isAgg33 (hst.bc4 z)) (pkr z z (fun w hst => x_field z underlying36 z sizeOf33 z) pk_nil)) ?_
 refine ws_e1 9 (by kernel_rfl) ?_
 refine nxe [10, 11] (by kernel_rfl) z z ?_
 clear hst
 intro w hst
 obtain ⟨hg1274, hm⟩ := gd_some hm
 replace hst := hst.pull2
 obtain ⟨v1275, w1276, hr1277, hst⟩ := run_append elem_33 underlying33 hst hst.src1 (room_of hg1274 z) 33
 refine we_run (v := v1275) (w' := w1276) z (x_append z z hr1277) ?_
 refine ws_next (pend' := []) hst (by kernel_rfl) pk_nil ?_
 refine wsr (Pt b1131 3) 10 z z z (by kernel_rfl) (fun w hst => x_field z underlying36 z sizeOf33 z) ?_
 refine ws_e1 11 (by kernel_rfl) ?_
 refine nxe [] (by kernel_rfl) z z ?_
 clear hst
 intro w hst
 replace hst := hst.pull4
 obtain ⟨w1278, hr1279, hst⟩ := hst.boxStore1 (P := prog) (t := 33) (cs' := [I6 z1132, U6 z1133, U6 z1134, v1275, Zs]) 3 v1275 (one_of_sliceV hst.sv1) sizeOf33 z z
 refine we_unit z (x_unit hr1279) ?_
 refine ws_next (pend' := []) hst (by kernel_rfl) pk_nil ?_
 refine ws_nil ?_
 intro w hst
 refine blk_n (tn (wrl ?_))
 refine wv (.int .i64 z1241) z z z (wv (.int .i64 (i64.wrap (z1241 + (1:Int)))) z z z (wv (.int .i64 (i64.wrap (z1241 + (1:Int)))) z z z (wl_nil (tn ?_))))
 replace hst := hst.pull4.pull4.pull3.keep4
 obtain rfl := some_inj hm
 exact ⟨_, Nat.lt_succ_self _, _, (z1237 ++ ([({ Has := (t1252.1 == (0:Int)), Val := t1257.1 } : api_Got)])), t1257.2, (i64.wrap (z1241 + (1:Int))), v1275, _, hx1249, (fu 0 p0 z (fu 2 (Pt b1020 0) z (fu 4 (Pt b1131 0) z (fu 5 (.int .i64 t1140.1) z (fu 6 (.int .i64 (i64.wrap (z1241 + (1:Int)))) z z))))), hL1246, hst⟩
}
 {
 replace hm := bif_f hc1251 hm
 refine wp_iff (cvb hc1251) ?_
 refine wp_exit (then_x (then_x ?_))
 replace hm := inr_up hm hx1249
 refine blk_x (tn ?_)
 replace hst := hst.pull3.pull3.pull3.keep4
 obtain rfl := some_inj hm
 exact ⟨_, z1240, z1237, v1238, _, hx1288, (fu 0 p0 z (fu 2 (Pt b1020 0) z (fu 4 (Pt b1131 0) z z))), hL1289, hst⟩
}
}
 {
 clear hst
 rintro _ w1290 ⟨I1284, z1280, z1283, v1282, σ1285, hm, rfl, hL1286, hst⟩
 dsimp only [ref13_OfReply_j1] at hm
 replace hI0 := hI0.trans hL1286
 refine wp_seq (wrl (wv (p0) z z z ?_))
 obtain ⟨t1291, ht1292, hm⟩ := bind_some hm
 refine wc call9 [p0, I6 (3:Int)] z z z ?_
 refine (ref12_Tape_Next_ref hst.to1 ht1292).mono ?_
 rintro _ w1293 ⟨rfl, hst⟩
 refine ⟨_, z, ?_⟩
 replace hst := hst.of1
 refine wv (.int .i64 (i64.wrap (Int.tdiv t1291.1 (2:Int)))) z z (x_quo (by decide) z z) (wv (.int .i64 (i64.wrap (Int.tdiv t1291.1 (2:Int)))) z z z (wl_nil (tn (wp_seq (wp_seq (wrl (wv (.int .i64 (0:Int)) z z z (wl_nil (tn (wp_block ?_))))))))))
 replace hst := hst.own_nil (tySl ty_api_Pair)
 obtain ⟨n1788, hm⟩ := loopO_some hm
 refine wp_loop_n (fun n a w => ∃ (I1786 : HL) (z1781 : (List (List api_Pair))) (z1784 : ref12_Tape) (z1785 : Int) (v1782 : Value) (σ1787 : Nat → Value), loopN (ref13_OfReply_l3 t1291 z1132 z1133 z1134 z1283) n (z1781, z1784, z1785) = some r ∧ a = Fr 72 (upd (upd (upd (upd (upd σ1787 0 (p0)) 2 (Pt b1020 0)) 4 (Pt b1131 0)) 5 (.int .i64 (i64.wrap (Int.tdiv t1291.1 (2:Int))))) 7 (.int .i64 z1785)) ∧ I1284.le I1786 ∧ St w0 w I1786 [ownS (tySl ty_api_Pair) v1782 z1781, at_ref12_Tape p0 z1784, cells b1020 [Zi, Zu, Zu, Zs, Zs], cells b1131 [I6 z1132, U6 z1133, U6 z1134, v1282, v1782], ownS ty_api_Got v1282 z1283] R) n1788 ⟨_, [], t1291.2, (0:Int), Zs, _, hm, (fu 0 p0 z (fu 2 (Pt b1020 0) z (fu 4 (Pt b1131 0) z (fu 5 (.int .i64 (i64.wrap (Int.tdiv t1291.1 (2:Int)))) z (fu 7 (.int .i64 (0:Int)) z z))))), (HL.le.refl _), hst⟩ ?_
 rintro n1794 _ w1789 ⟨I1786, z1781, z1784, z1785, v1782, σ1787, hm, rfl, hL1790, hst⟩
 obtain ⟨n1791, y1792, rfl, hm, hx1793⟩ := loopN_some hm
 dsimp only [ref13_OfReply_l3] at hm
 replace hI0 := hI0.trans hL1790
 refine wp_seq (wp_seq (wrl (wv (.int .i64 z1785) z z z (wv (.int .i64 (i64.wrap (Int.tdiv t1291.1 (2:Int)))) z z z (wv (.bool (decide (z1785 < (i64.wrap (Int.tdiv t1291.1 (2:Int)))))) z z z (wl_nil (tn ?_)))))))
 refine bsplit (decide (z1785 < (i64.wrap (Int.tdiv t1291.1 (2:Int))))) (fun hc1795 => ?_) (fun hc1795 => ?_)
 {
 replace hm := bif_t hc1795 hm
 refine wp_ift (cvb hc1795) ?_
 refine wp_skip (tn (wp_seq (wp_block (wp_seq (wrl ?_)))))
 refine wv ((.slice none 0 0)) z z z (wl_nil (tn (wp_seq (wrl (wv (p0) z z z ?_)))))
 replace hst := hst.pull1
 obtain ⟨t1797, ht1798, hm⟩ := bind_some hm
 refine wc call9 [p0, I6 (3:Int)] z z z ?_
 refine (ref12_Tape_Next_ref hst.to1 ht1798).mono ?_
 rintro _ w1799 ⟨rfl, hst⟩
 refine ⟨_, z, ?_⟩
 replace hst := hst.of1
 refine wv (.int .i64 t1797.1) z z z (wl_nil (tn ?_))
 obtain ⟨y1936, hm, hx1937⟩ := bind_some hm
 refine wp_cut (fun a w => ∃ (I1933 : HL) (z1929 : ref12_Tape) (z1932 : (List api_Pair)) (v1931 : Value) (σ1934 : Nat → Value), (ref13_OfReply_j4 z1781 z1785) (z1929, z1932) = some y1792 ∧ a = Fr 72 (upd (upd (upd (upd (upd (upd σ1934 0 (p0)) 2 (Pt b1020 0)) 4 (Pt b1131 0)) 5 (.int .i64 (i64.wrap (Int.tdiv t1291.1 (2:Int))))) 7 (.int .i64 z1785)) 8 (v1931)) ∧ I1786.le I1933 ∧ St w0 w I1933 [at_ref12_Tape p0 z1929, cells b1020 [Zi, Zu, Zu, Zs, Zs], cells b1131 [I6 z1132, U6 z1133, U6 z1134, v1282, v1782], ownS ty_api_Got v1282 z1283, ownS (tySl ty_api_Pair) v1782 z1781, ownS ty_api_Pair v1931 z1932] R) ?_ ?_
 {
 have hL1938 := HL.le.refl I1786
 refine wp_seq (wrl (wv (.int .i64 (0:Int)) z z z (wl_nil (tn (wp_block ?_)))))
 replace hst := hst.own_nil ty_api_Pair
 obtain ⟨n1895, hm⟩ := loopO_some hm
 refine wp_loop_n (fun n a w => ∃ (I1893 : HL) (z1888 : ref12_Tape) (z1889 : Int) (z1890 : (List api_Pair)) (v1891 : Value) (σ1894 : Nat → Value), loopN (ref13_OfReply_l5 t1797) n (z1888, z1889, z1890) = some y1936 ∧ a = Fr 72 (upd (upd (upd (upd (upd (upd (upd (upd σ1894 0 (p0)) 2 (Pt b1020 0)) 4 (Pt b1131 0)) 5 (.int .i64 (i64.wrap (Int.tdiv t1291.1 (2:Int))))) 7 (.int .i64 z1785)) 8 (v1891)) 9 (.int .i64 t1797.1)) 10 (.int .i64 z1889)) ∧ I1786.le I1893 ∧ St w0 w I1893 [ownS ty_api_Pair v1891 z1890, at_ref12_Tape p0 z1888, ownS (tySl ty_api_Pair) v1782 z1781, cells b1020 [Zi, Zu, Zu, Zs, Zs], cells b1131 [I6 z1132, U6 z1133, U6 z1134, v1282, v1782], ownS ty_api_Got v1282 z1283] R) n1895 ⟨_, t1797.2, (0:Int), [], Zs, _, hm, (fu 0 p0 z (fu 2 (Pt b1020 0) z (fu 4 (Pt b1131 0) z (fu 5 (.int .i64 (i64.wrap (Int.tdiv t1291.1 (2:Int)))) z (fu 7 (.int .i64 z1785) z (fu 8 (.slice none 0 0) z (fu 9 (.int .i64 t1797.1) z (fu 10 (.int .i64 (0:Int)) z z)))))))), (HL.le.refl _), hst⟩ ?_
 rintro n1901 _ w1896 ⟨I1893, z1888, z1889, z1890, v1891, σ1894, hm, rfl, hL1897, hst⟩
 obtain ⟨n1898, y1899, rfl, hm, hx1900⟩ := loopN_some hm
 dsimp only [ref13_OfReply_l5] at hm
 replace hI0 := hI0.trans hL1897
 replace hL1790 := hL1790.trans hL1897
 replace hL1938 := hL1938.trans hL1897
 refine wp_seq (wp_seq (wrl (wv (.int .i64 z1889) z z z (wv (.int .i64 t1797.1) z z z (wv (.bool (decide (z1889 < t1797.1))) z z z (wl_nil (tn ?_)))))))
 refine bsplit (decide (z1889 < t1797.1)) (fun hc1902 => ?_) (fun hc1902 => ?_)
 {
 replace hm := bif_t hc1902 hm
 refine wp_ift (cvb hc1902) ?_
 refine wp_skip (tn (wp_seq (wp_block (wrl ?_))))
 refine wv (v1891) z z z (wv (p0) z z z ?_)
 replace hst := hst.pull1
 obtain ⟨t1903, ht1904, hm⟩ := bind_some hm
 refine wc call21 [p0] z z z ?_
 refine (ref12_Tape_Float_ref hst.to1 ht1904).mono ?_
 rintro _ w1905 ⟨rfl, hst⟩
 refine ⟨_, z, ?_⟩
 replace hst := hst.of1
 refine wv (p0) z z z ?_
 obtain ⟨t1908, ht1909, hm⟩ := bind_some hm
 refine wc call20 [p0] z z z ?_
 refine (ref12_Tape_Val_ref hst.to1 ht1909).mono ?_
 rintro _ w1910 ⟨v1913, rfl, hst⟩
 refine ⟨_, z, ?_⟩
 replace hst := hst.of2
 refine wv (.agg #[F6 t1903.1, v1913]) z z (by obtain ⟨_, _, hv_, _⟩ := hst.sv0; rw [hv_]; kernel_rfl) ?_
 obtain ⟨I1917, hI1918, f1919, hst⟩ := hst.own_fix
 replace hI0 := hI0.trans hI1918
 replace hL1790 := hL1790.trans hI1918
 replace hL1938 := hL1938.trans hI1918
 replace hL1897 := hL1897.trans hI1918
 obtain ⟨b1920, w1921, ew1922, eb1923, hst⟩ := hst.lits (E := ty_api_Pair) (xs := [({ At := t1903.1, Val := t1908.1 } : api_Pair)]) [[F6 t1903.1, v1913]] 64 1 z (Reps.cons ⟨_, z, f1919, one_of_sliceV (ro_sliceV f1919)⟩ Reps.nil)
 refine wl_run (v := (.slice (some ⟨b1920, 0, none⟩) 1 1)) (w' := w1921) z z (x_als (by kernel_rfl) ew1922 eb1923) ?_
 obtain ⟨hg1925, hm⟩ := gd_some hm
 replace hst := hst.pull2
 obtain ⟨v1926, w1927, hr1928, hst⟩ := run_append elem_60 underlying60 hst hst.src1 (room_of hg1925 z) 60
 refine wl_run (v := v1926) (w' := w1927) z z (x_append z z hr1928) ?_
 refine wv (v1926) z z z (wl_nil (blk_n (tn (wrl (wv (.int .i64 z1889) z z z (wv (.int .i64 (i64.wrap (z1889 + (1:Int)))) z z z (wv (.int .i64 (i64.wrap (z1889 + (1:Int)))) z z z (wl_nil (tn ?_)))))))))
 replace hst := hst.pull6.pull6.pull6.pull6.pull6.pull5.keep6
 obtain rfl := some_inj hm
 exact ⟨_, Nat.lt_succ_self _, _, t1908.2, (i64.wrap (z1889 + (1:Int))), (z1890 ++ ([({ At := t1903.1, Val := t1908.1 } : api_Pair)])), v1926, _, hx1900, (fu 0 p0 z (fu 2 (Pt b1020 0) z (fu 4 (Pt b1131 0) z (fu 5 (.int .i64 (i64.wrap (Int.tdiv t1291.1 (2:Int)))) z (fu 7 (.int .i64 z1785) z (fu 8 v1926 z (fu 9 (.int .i64 t1797.1) z (fu 10 (.int .i64 (i64.wrap (z1889 + (1:Int)))) z z)))))))), hL1897, hst⟩
}
 {
 replace hm := bif_f hc1902 hm
 refine wp_iff (cvb hc1902) ?_
 refine wp_exit (then_x (then_x ?_))
 replace hm := inr_up hm hx1900
 refine blk_x (tn ?_)
 replace hst := hst.pull2.pull5.pull5.pull5.pull5.keep6
 obtain rfl := some_inj hm
 exact ⟨_, z1888, z1890, v1891, _, hx1937, (fu 0 p0 z (fu 2 (Pt b1020 0) z (fu 4 (Pt b1131 0) z (fu 5 (.int .i64 (i64.wrap (Int.tdiv t1291.1 (2:Int)))) z (fu 7 (.int .i64 z1785) z (fu 8 v1891 z z)))))), hL1938, hst⟩
}
}
 {
 clear hst
 rintro _ w1939 ⟨I1933, z1929, z1932, v1931, σ1934, hm, rfl, hL1935, hst⟩
 dsimp only [ref13_OfReply_j4] at hm
 replace hI0 := hI0.trans hL1935
 replace hL1790 := hL1790.trans hL1935
 refine wrl (wv (Pt b1131 4) z z (x_field z underlying36 z sizeOf34 z) (wv (v1782) z z (x_load z isAgg34 (hst.bc2 z)) (wv (v1931) z z z ?_)))
 replace hst := hst.pull5
 obtain ⟨I1941, hI1942, f1943, hst⟩ := hst.own_fix
 replace hI0 := hI0.trans hI1942
 replace hL1790 := hL1790.trans hI1942
 obtain ⟨b1944, w1945, ew1946, eb1947, hst⟩ := hst.lits (E := (tySl ty_api_Pair)) (xs := [z1932]) [[v1931]] 60 1 z (Reps.cons ⟨_, z, f1943, one_of_sliceV (ro_sliceV f1943)⟩ Reps.nil)
 refine wl_run (v := (.slice (some ⟨b1944, 0, none⟩) 1 1)) (w' := w1945) z z (x_als (by obtain ⟨_, _, hv_, _⟩ := (ro_sliceV f1943); rw [hv_]; kernel_rfl) ew1946 eb1947) ?_
 obtain ⟨hg1949, hm⟩ := gd_some hm
 replace hst := hst.pull5
 obtain ⟨v1950, w1951, hr1952, hst⟩ := run_append elem_34 underlying34 hst hst.src1 (room_of hg1949 z) 34
 refine wl_run (v := v1950) (w' := w1951) z z (x_append z z hr1952) ?_
 refine wv (Pt b1131 4) z z (x_field z underlying36 z sizeOf34 z) ?_
 replace hst := hst.pull4
 obtain ⟨w1953, hr1954, hst⟩ := hst.boxStore1 (P := prog) (t := 34) (cs' := [I6 z1132, U6 z1133, U6 z1134, v1282, v1950]) 4 v1950 (one_of_sliceV hst.sv1) sizeOf34 z z
 refine wl_unit z z (x_unit hr1954) ?_
 refine wl_nil (blk_n (tn (wrl (wv (.int .i64 z1785) z z z (wv (.int .i64 (i64.wrap (z1785 + (1:Int)))) z z z (wv (.int .i64 (i64.wrap (z1785 + (1:Int)))) z z z (wl_nil (tn ?_))))))))
 replace hst := hst.pull5.pull1.pull5.pull5.pull4.keep5
 obtain rfl := some_inj hm
 exact ⟨_, Nat.lt_succ_self _, _, (z1781 ++ ([z1932])), z1929, (i64.wrap (z1785 + (1:Int))), v1950, _, hx1793, (fu 0 p0 z (fu 2 (Pt b1020 0) z (fu 4 (Pt b1131 0) z (fu 5 (.int .i64 (i64.wrap (Int.tdiv t1291.1 (2:Int)))) z (fu 7 (.int .i64 (i64.wrap (z1785 + (1:Int)))) z z))))), hL1790, hst⟩
}
}
 {
 replace hm := bif_f hc1795 hm
 refine wp_iff (cvb hc1795) ?_
 refine wp_exit (then_x (then_x ?_))
 replace hm := inr_up hm hx1793
 refine blk_x (tn (wp_seq (wrl ?_)))
 refine wv (.agg #[I6 z1132, U6 z1133, U6 z1134, v1282, v1782]) z z (x_loadN (cs := [I6 z1132, U6 z1133, U6 z1134, v1282, v1782]) z isAgg36 sizeOf36 (hst.bcs3 0 z)) ?_
 replace hst := hst.pull2
 obtain ⟨w1955, hr1956, hst⟩ := hst.bx [I6 z1132, U6 z1133, U6 z1134, v1282, v1782] sizeOf36 z (oC z (oC z (oC z (oC (one_of_sliceV hst.sv4) (oC (one_of_sliceV hst.sv1) oN))))) (by kernel_rfl)
 refine wl_unit z z (x_unit hr1956) ?_
 refine wl_nil (tn (wp_ret ?_))
 obtain rfl := some_inj hm
 refine post_ret (vs := [.agg #[I6 z1132, U6 z1133, U6 z1134, v1282, v1782]]) results10 (rvs_cons (rv_cell (cs := [I6 z1132, U6 z1133, U6 z1134, v1282, v1782]) z isAgg36 sizeOf36 (hst.bcs0 0 z)) rvs_nil) ?_
 replace hst := hst.pull2.pull2.pull4
 exact ⟨_, v1282, v1782, z, hI0, hst.keep3⟩
}
}
}
}

theorem law14_SessionJunk_ref {w0 w : World} {I : HL} {R : SP} {a0 : (List Int)} {r0_0 : Value} {a1 : (List Int)} {r1_0 : Value} {a2 : Int} {a3 : Int} (f0_0 : Ro (tyInt .u8) I r0_0 a0) (f1_0 : Ro (tyInt .u8) I r1_0 a1) (hst : St w0 w I [] R) {r : (Bool)} (hm : law14_SessionJunk a0 a1 a2 a3 = some r) :
  Calls prog 5 #[r0_0, r1_0, .int .u16 a2, U1 a3] w fun e w' => ∃ (I' : HL), e = .returned (.bool r) ∧ I.le I' ∧ St w0 w' I' [] R := by {
 unfold law14_SessionJunk at hm
 refine calls_start (args := [r0_0, r1_0, .int .u16 a2, U1 a3]) func5 z ntmps5 (Nat.le_of_ble_eq_true z) ?_
 have hI0 := HL.le.refl I
 refine wp_seq (wrl (wv (.bool false) z z z (wl_nil (tn (wp_seq (wp_seq (wrl ?_)))))))
 obtain ⟨t228, ht229, hm⟩ := bind_some hm
 refine wc call7 [] z z z ?_
 refine (law14_awake_ref hst.to0 ht229).mono ?_
 rintro _ w230 ⟨I231, rfl, hI232, hst⟩
 refine ⟨_, z, ?_⟩
 replace hst := hst.of0
 replace f0_0 := f0_0.mono (ro_le hI232)
 replace f1_0 := f1_0.mono (ro_le hI232)
 replace hI0 := hI0.trans hI232
 refine wv (.bool (!t228)) z z z (wv (.bool (!t228)) z z z ?_)
 refine bsplit (!t228) (fun hc233 => ?_) (fun hc233 => ?_)
 {
 replace hm := bif_t hc233 hm
 refine wo hc233 z z z z z z (wo hc233 z z z z z z (wo hc233 z z z z z z (wv (.bool true) z z (x_pick_t hc233 z z) (wv (.bool true) z z z (wz z z z z z z (wz z z z z z z (wz z z z z z z (wv (.bool true) z z (x_pick_t z z z) (wl_nil (tn ?_))))))))))
 refine wp_ift z ?_
 refine wp_seq (wrl ?_)
 obtain ⟨t234, ht235, hm⟩ := bind_some hm
 refine wc call7 [] z z z ?_
 refine (law14_awake_ref hst.to0 ht235).mono ?_
 rintro _ w236 ⟨I237, rfl, hI238, hst⟩
 refine ⟨_, z, ?_⟩
 replace hst := hst.of0
 replace f0_0 := f0_0.mono (ro_le hI238)
 replace f1_0 := f1_0.mono (ro_le hI238)
 replace hI0 := hI0.trans hI238
 refine wv (.bool t234) z z z (wl_nil (tn (wp_ret (then_r ?_))))
 obtain rfl := some_inj hm
 refine post_ret (vs := [.bool t234]) results5 (rvs_cons (rv_tmp z) rvs_nil) ?_
 exact ⟨_, z, hI0, hst.keep0⟩
}
 {
 replace hm := bif_f hc233 hm
 refine wv (r0_0) ((wanted_eq z z z (cvb hc233)).trans z) z z (wv (.int .i64 ((a0).length : Int)) ((wanted_eq z z z (cvb hc233)).trans z) z (x_len z underlying22 (ro_sliceV f0_0)) (wv (.bool (decide (((a0).length : Int) > (1000:Int)))) ((wanted_eq z z z (cvb hc233)).trans z) z z (wv (.bool (decide (((a0).length : Int) > (1000:Int)))) z z (x_pick_f hc233 z z) (wv (.bool (decide (((a0).length : Int) > (1000:Int)))) z z z ?_))))
 refine bsplit (decide (((a0).length : Int) > (1000:Int))) (fun hc239 => ?_) (fun hc239 => ?_)
 {
 replace hm := bif_t hc239 hm
 refine wo hc239 z z z z z z (wo hc239 z z z z z z (wo hc239 z z z z z z (wv (.bool true) z z (x_pick_t hc239 z z) (wl_nil (tn ?_)))))
 refine wp_ift z ?_
 refine wp_seq (wrl ?_)
 obtain ⟨t240, ht241, hm⟩ := bind_some hm
 refine wc call7 [] z z z ?_
 refine (law14_awake_ref hst.to0 ht241).mono ?_
 rintro _ w242 ⟨I243, rfl, hI244, hst⟩
 refine ⟨_, z, ?_⟩
 replace hst := hst.of0
 replace f0_0 := f0_0.mono (ro_le hI244)
 replace f1_0 := f1_0.mono (ro_le hI244)
 replace hI0 := hI0.trans hI244
 refine wv (.bool t240) z z z (wl_nil (tn (wp_ret (then_r ?_))))
 obtain rfl := some_inj hm
 refine post_ret (vs := [.bool t240]) results5 (rvs_cons (rv_tmp z) rvs_nil) ?_
 exact ⟨_, z, hI0, hst.keep0⟩
}
 {
 replace hm := bif_f hc239 hm
 refine wv (r1_0) ((wanted_eq z z z (cvb hc239)).trans z) z z (wv (.int .i64 ((a1).length : Int)) ((wanted_eq z z z (cvb hc239)).trans z) z (x_len z underlying22 (ro_sliceV f1_0)) (wv (.bool (decide (((a1).length : Int) > (200:Int)))) ((wanted_eq z z z (cvb hc239)).trans z) z z (wv (.bool (decide (((a1).length : Int) > (200:Int)))) z z (x_pick_f hc239 z z) (wl_nil (tn ?_)))))
 refine bsplit (decide (((a1).length : Int) > (200:Int))) (fun hc245 => ?_) (fun hc245 => ?_)
 {
 replace hm := bif_t hc245 hm
 refine wp_ift (cvb hc245) ?_
 refine wp_seq (wrl ?_)
 obtain ⟨t246, ht247, hm⟩ := bind_some hm
 refine wc call7 [] z z z ?_
 refine (law14_awake_ref hst.to0 ht247).mono ?_
 rintro _ w248 ⟨I249, rfl, hI250, hst⟩
 refine ⟨_, z, ?_⟩
 replace hst := hst.of0
 replace f0_0 := f0_0.mono (ro_le hI250)
 replace f1_0 := f1_0.mono (ro_le hI250)
 replace hI0 := hI0.trans hI250
 refine wv (.bool t246) z z z (wl_nil (tn (wp_ret (then_r ?_))))
 obtain rfl := some_inj hm
 refine post_ret (vs := [.bool t246]) results5 (rvs_cons (rv_tmp z) rvs_nil) ?_
 exact ⟨_, z, hI0, hst.keep0⟩
}
 {
 replace hm := bif_f hc245 hm
 refine wp_iff (cvb hc245) ?_
 refine wp_skip (tn (wp_seq (wrl ?_)))
 refine wv (r0_0) z z z ?_
 obtain ⟨t251, ht252, hm⟩ := bind_some hm
 refine wc call18 [r0_0] z z z ?_
 refine (session_Decode_ref f0_0 hst.to0 ht252).mono ?_
 rintro _ w253 ⟨I254, v256, rfl, hI255, hst⟩
 refine ⟨_, z, ?_⟩
 replace hst := hst.of1
 replace f0_0 := f0_0.mono (ro_le hI255)
 replace f1_0 := f1_0.mono (ro_le hI255)
 replace hI0 := hI0.trans hI255
 refine wv (.tuple #[v256, I6 t251.2]) z z z (wv (v256) z z z (wv (.int .i64 t251.2) z z z (wv (v256) z z z (wv (.int .i64 t251.2) z z z (wl_nil (tn ?_))))))
 obtain ⟨y275, hm, hx276⟩ := joinO_some hm
 refine wp_cut (fun a w => ∃ (σ273 : Nat → Value), (law14_SessionJunk_j0 a1 a2 a3) () = some r ∧ a = Fr 116 (upd (upd (upd σ273 1 (r1_0)) 2 (.int .u16 a2)) 3 (.int .u8 a3)) ∧ St w0 w I254 [] R) ?_ ?_
 {
 refine wp_seq ?_
 refine wp_region_St hst 22 [0, 1, 2, 3, 4, 5, 6, 7, 8, 9, 10, 11, 12, 13, 14, 15, 16, 17, 18, 19, 20, 21] [0, 1, 3, 7, 15, 31, 7, 71, 255, 511, 1023, 2047, 4095, 8191, 16383, 32767, 65535, 131071, 262143, 524287, 1048575, 2097151] [] z (by kernel_rfl) (by kernel_rfl) Try.mixed (by kernel_rfl) ?_
 refine wsr (.int .i64 t251.2) 0 z z z (by kernel_rfl) (fun w hst => z) (wsr (.bool (t251.2 == (0:Int))) 1 z z z (by kernel_rfl) (fun w hst => z) (wsr (.bool (t251.2 == (0:Int))) 2 z z z (by kernel_rfl) (fun w hst => z) ?_))
 refine bsplit (t251.2 == (0:Int)) (fun hc258 => ?_) (fun hc258 => ?_)
 {
 replace hm := bif_t hc258 hm
 refine ws_q (v := v256) 3 [4, 5, 6, 7, 8, 9, 10, 11, 12, 13, 14, 15, 16, 17, 18, 19, 20, 21] (by kernel_rfl) z z (yi_run ((wanted_eq z z z (cvb hc258)).trans z) (fun w hst => z)) (ws_q (v := r0_0) 6 [4, 5, 7, 8, 9, 10, 11, 12, 13, 14, 15, 16, 17, 18, 19, 20, 21] (by kernel_rfl) z z (yi_run ((wanted_eq z z z (cvb hc258)).trans z) (fun w hst => z)) (ws_q (v := .string (toStr a0)) 7 [4, 5, 8, 9, 10, 11, 12, 13, 14, 15, 16, 17, 18, 19, 20, 21] (by kernel_rfl) z z (yi_run ((wanted_eq z z z (cvb hc258)).trans z) (fun w hst => x_tostr underlying22 underlying9 underlying5 z (Src.of_ro hst f0_0))) ?_))
 refine ws_e1 4 (by kernel_rfl) ?_
 refine nxe [5, 8, 9, 10, 11, 12, 13, 14, 15, 16, 17, 18, 19, 20, 21] (by kernel_rfl) z ((wanted_eq z z z (cvb hc258)).trans z) ?_
 clear hst
 intro w hst
 obtain ⟨t259, ht260, hm⟩ := bind_some hm
 refine wec call19 [v256] z z ?_
 refine (session_Table_Encode_ref hst.to1 ht260).mono ?_
 rintro _ w261 ⟨v264, rfl, hst⟩
 refine ⟨_, z, ?_⟩
 replace hst := hst.of2
 refine ws_next (pend' := [(7, .string (toStr a0)), (6, r0_0)]) hst (by kernel_rfl) (pk_cons z (yi_run ((wanted_eq z z z (cvb hc258)).trans z) (fun w hst => x_tostr underlying22 underlying9 underlying5 z (Src.of_ro hst f0_0))) (pk_cons z (yi_run ((wanted_eq z z z (cvb hc258)).trans z) (fun w hst => z)) pk_nil)) ?_
 refine ws_q (v := .string (toStr t259)) 5 [8, 9, 10, 11, 12, 13, 14, 15, 16, 17, 18, 19, 20, 21] (by kernel_rfl) z z (yi_run ((wanted_eq z z z (cvb hc258)).trans z) (fun w hst => x_tostr underlying22 underlying9 underlying5 z hst.src0)) (ws_q (v := .bool (!(sEq (toStr t259) (toStr a0)))) 8 [9, 10, 11, 12, 13, 14, 15, 16, 17, 18, 19, 20, 21] (by kernel_rfl) z z (yi_run ((wanted_eq z z z (cvb hc258)).trans z) (fun w hst => by kernel_rfl)) (wsr (.bool (!(sEq (toStr t259) (toStr a0)))) 9 z z z (by kernel_rfl) (fun w hst => x_pick_t hc258 z z) (wsr (.bool (!(sEq (toStr t259) (toStr a0)))) 10 z z z (by kernel_rfl) (fun w hst => z) ?_)))
 refine bsplit (!(sEq (toStr t259) (toStr a0))) (fun hc266 => ?_) (fun hc266 => ?_)
 {
 replace hm := bif_t hc266 hm
 refine ws_q (v := undef) 11 [12, 13, 14, 15, 16, 17, 18, 19, 20, 21] (by kernel_rfl) z z (yi_off ((wanted_eq z z z (cvb hc266)).trans z)) (ws_q (v := undef) 12 [13, 14, 15, 16, 17, 18, 19, 20, 21] (by kernel_rfl) z z (yi_off ((wanted_eq z z z (cvb hc266)).trans z)) (ws_q (v := undef) 13 [14, 15, 16, 17, 18, 19, 20, 21] (by kernel_rfl) z z (yi_off ((wanted_eq z z z (cvb hc266)).trans z)) (ws_q (v := undef) 14 [15, 16, 17, 18, 19, 20, 21] (by kernel_rfl) z z (yi_off (wanted_undef z z z z)) (ws_q (v := undef) 15 [16, 17, 18, 19, 20, 21] (by kernel_rfl) z z (yi_off (wanted_undef z z z z)) (ws_q (v := undef) 16 [17, 18, 19, 20, 21] (by kernel_rfl) z z (yi_off (wanted_undef z z z z)) (ws_q (v := undef) 17 [18, 19, 20, 21] (by kernel_rfl) z z (yi_off (wanted_undef z z z z)) (ws_q (v := undef) 18 [19, 20, 21] (by kernel_rfl) z z (yi_off (wanted_undef z z z z)) (ws_q (v := undef) 19 [20, 21] (by kernel_rfl) z z (yi_off (wanted_undef z z z z)) (ws_q (v := undef) 20 [21] (by kernel_rfl) z z (yi_off ((wanted_eq z z z (cvb hc266)).trans z)) (wsr (.bool true) 21 z z z (by kernel_rfl) (fun w hst => x_pick_t hc266 z z) ?_))))))))))
 refine ws_nil ?_
 intro w hst
 refine tn ?_
 refine wp_ift z ?_
 refine wp_seq (wrl (wv (.bool false) z z z (wl_nil (tn (wp_ret (then_r ?_))))))
 replace hm := inr_up hm hx276
 obtain rfl := some_inj hm
 refine post_ret (vs := [.bool false]) results5 (rvs_cons (rv_tmp z) rvs_nil) ?_
 exact ⟨_, z, hI0, hst.keep0⟩
}
 {
 replace hm := bif_f hc266 hm
 refine ws_q (v := .int .i64 t251.2) 11 [12, 13, 14, 15, 16, 17, 18, 19, 20, 21] (by kernel_rfl) z z (yi_run ((wanted_eq z z z (cvb hc266)).trans z) (fun w hst => z)) (ws_q (v := .bool (t251.2 != (0:Int))) 12 [13, 14, 15, 16, 17, 18, 19, 20, 21] (by kernel_rfl) z z (yi_run ((wanted_eq z z z (cvb hc266)).trans z) (fun w hst => z)) (ws_q (v := .bool (t251.2 != (0:Int))) 13 [14, 15, 16, 17, 18, 19, 20, 21] (by kernel_rfl) z z (yi_run ((wanted_eq z z z (cvb hc266)).trans z) (fun w hst => z)) ?_))
 refine bsplit (t251.2 != (0:Int)) (fun hc267 => ?_) (fun hc267 => ?_)
 {
 replace hm := bif_t hc267 hm
 refine ws_q (v := .int .i64 t251.2) 14 [15, 16, 17, 18, 19, 20, 21] (by kernel_rfl) z z (yi_run ((wanted_eq z z z (cvb hc267)).trans z) (fun w hst => z)) (ws_q (v := .bool (t251.2 != (5:Int))) 15 [16, 17, 18, 19, 20, 21] (by kernel_rfl) z z (yi_run ((wanted_eq z z z (cvb hc267)).trans z) (fun w hst => z)) (ws_q (v := .bool (t251.2 != (5:Int))) 16 [17, 18, 19, 20, 21] (by kernel_rfl) z z (yi_run ((wanted_eq z z z (cvb hc267)).trans z) (fun w hst => z)) ?_))
 refine bsplit (t251.2 != (5:Int)) (fun hc268 => ?_) (fun hc268 => ?_)
 {
 replace hm := bif_t hc268 hm
 refine ws_q (v := undef) 17 [18, 19, 20, 21] (by kernel_rfl) z z (yi_off ((wanted_eq z z z (cvb hc268)).trans z)) (ws_q (v := undef) 18 [19, 20, 21] (by kernel_rfl) z z (yi_off ((wanted_eq z z z (cvb hc268)).trans z)) (ws_q (v := .bool true) 19 [20, 21] (by kernel_rfl) z z (yi_run ((wanted_eq z z z (cvb hc267)).trans z) (fun w hst => x_pick_t hc268 z z)) (ws_q (v := .bool true) 20 [21] (by kernel_rfl) z z (yi_run ((wanted_eq z z z (cvb hc266)).trans z) (fun w hst => x_pick_t hc267 z z)) (wsr (.bool true) 21 z z z (by kernel_rfl) (fun w hst => x_pick_f hc266 z z) ?_))))
 refine ws_nil ?_
 intro w hst
 refine tn ?_
 refine wp_ift z ?_
 refine wp_seq (wrl (wv (.bool false) z z z (wl_nil (tn (wp_ret (then_r ?_))))))
 replace hm := inr_up hm hx276
 obtain rfl := some_inj hm
 refine post_ret (vs := [.bool false]) results5 (rvs_cons (rv_tmp z) rvs_nil) ?_
 exact ⟨_, z, hI0, hst.keep0⟩
}
 {
 replace hm := bif_f hc268 hm
 refine ws_q (v := v256) 17 [18, 19, 20, 21] (by kernel_rfl) rfl rfl (yi_run ((wanted_eq rfl rfl rfl (cvb hc268)).trans rfl) (fun w hst => rfl)) (ws_q (v := .bool (!(t251.1.isNone))) 18 [19, 20, 21] (by kernel_rfl) rfl rfl (yi_run ((wanted_eq rfl rfl rfl (cvb hc268)).trans rfl) (fun w hst => by obtain ⟨a_, ha_, hb_⟩ := at_session_Table_isnil hst.pull1; subst ha_; rw [← hb_]; cases a_ <;> kernel_rfl)) (ws_q (v := .bool (!(t251.1.isNone))) 19 [20, 21] (by kernel_rfl) rfl rfl (yi_run ((wanted_eq rfl rfl rfl (cvb hc267)).trans rfl) (fun w hst => x_pick_f hc268 rfl rfl)) (ws_q (v := .bool (!(t251.1.isNone))) 20 [21] (by kernel_rfl) rfl rfl (yi_run ((wanted_eq rfl rfl rfl (cvb hc266)).trans rfl) (fun w hst => x_pick_t hc267 rfl rfl)) (wsr (.bool (!(t251.1.isNone))) 21 rfl rfl rfl (by kernel_rfl) (fun w hst => x_pick_f hc266 rfl rfl) ?_))))
 refine ws_nil ?_
 intro w hst
 refine tn ?_
 refine bsplit (!(t251.1.isNone)) (fun hc269 => ?_) (fun hc269 => ?_)
 {
 replace hm := bif_t hc269 hm
 refine wp_ift (cvb hc269) ?_
 refine wp_seq (wrl (wv (.bool false) z z z (wl_nil (tn (wp_ret (then_r ?_))))))
 replace hm := inr_up hm hx276
 obtain rfl := some_inj hm
 refine post_ret (vs := [.bool false]) results5 (rvs_cons (rv_tmp z) rvs_nil) ?_
 exact ⟨_, z, hI0, hst.keep0⟩
}
 {
 replace hm := bif_f hc269 hm
 refine wp_iff (cvb hc269) ?_
 refine wp_skip (tn ?_)
 replace hst := hst.keep0
 obtain rfl := some_inj hm
 exact ⟨_, hx276, (fu 1 r1_0 z (fu 2 (.int .u16 a2) z (fu 3 (.int .u8 a3) z z))), hst⟩
}
}
}
 {
 replace hm := bif_f hc267 hm
 refine ws_q (v := undef) 14 [15, 16, 17, 18, 19, 20, 21] (by kernel_rfl) z z (yi_off ((wanted_eq z z z (cvb hc267)).trans z)) (ws_q (v := undef) 15 [16, 17, 18, 19, 20, 21] (by kernel_rfl) z z (yi_off ((wanted_eq z z z (cvb hc267)).trans z)) (ws_q (v := undef) 16 [17, 18, 19, 20, 21] (by kernel_rfl) z z (yi_off ((wanted_eq z z z (cvb hc267)).trans z)) (ws_q (v := undef) 17 [18, 19, 20, 21] (by kernel_rfl) z z (yi_off (wanted_undef z z z z)) (ws_q (v := undef) 18 [19, 20, 21] (by kernel_rfl) z z (yi_off (wanted_undef z z z z)) (ws_q (v := undef) 19 [20, 21] (by kernel_rfl) z z (yi_off ((wanted_eq z z z (cvb hc267)).trans z)) (ws_q (v := .bool false) 20 [21] (by kernel_rfl) z z (yi_run ((wanted_eq z z z (cvb hc266)).trans z) (fun w hst => x_pick_f hc267 z z)) (wsr (.bool false) 21 z z z (by kernel_rfl) (fun w hst => x_pick_f hc266 z z) ?_)))))))
 refine ws_nil ?_
 intro w hst
 refine tn ?_
 refine wp_iff z ?_
 refine wp_skip (tn ?_)
 replace hst := hst.keep0
 obtain rfl := some_inj hm
 exact ⟨_, hx276, (fu 1 r1_0 z (fu 2 (.int .u16 a2) z (fu 3 (.int .u8 a3) z z))), hst⟩
}
}
}
 {
 replace hm := bif_f hc258 hm
 refine ws_q (v := undef) 3 [4, 5, 6, 7, 8, 9, 10, 11, 12, 13, 14, 15, 16, 17, 18, 19, 20, 21] (by kernel_rfl) z z (yi_off ((wanted_eq z z z (cvb hc258)).trans z)) (ws_q (v := undef) 4 [5, 6, 7, 8, 9, 10, 11, 12, 13, 14, 15, 16, 17, 18, 19, 20, 21] (by kernel_rfl) z z (yi_off ((wanted_eq z z z (cvb hc258)).trans z)) (ws_q (v := undef) 5 [6, 7, 8, 9, 10, 11, 12, 13, 14, 15, 16, 17, 18, 19, 20, 21] (by kernel_rfl) z z (yi_off ((wanted_eq z z z (cvb hc258)).trans z)) (ws_q (v := undef) 6 [7, 8, 9, 10, 11, 12, 13, 14, 15, 16, 17, 18, 19, 20, 21] (by kernel_rfl) z z (yi_off ((wanted_eq z z z (cvb hc258)).trans z)) (ws_q (v := undef) 7 [8, 9, 10, 11, 12, 13, 14, 15, 16, 17, 18, 19, 20, 21] (by kernel_rfl) z z (yi_off ((wanted_eq z z z (cvb hc258)).trans z)) (ws_q (v := undef) 8 [9, 10, 11, 12, 13, 14, 15, 16, 17, 18, 19, 20, 21] (by kernel_rfl) z z (yi_off ((wanted_eq z z z (cvb hc258)).trans z)) (wsr (.bool false) 9 z z z (by kernel_rfl) (fun w hst => x_pick_f hc258 z z) (wsr (.bool false) 10 z z z (by kernel_rfl) (fun w hst => z) (ws_q (v := .int .i64 t251.2) 11 [12, 13, 14, 15, 16, 17, 18, 19, 20, 21] (by kernel_rfl) z z (yi_run ((wanted_eq z z z z).trans z) (fun w hst => z)) (ws_q (v := .bool (t251.2 != (0:Int))) 12 [13, 14, 15, 16, 17, 18, 19, 20, 21] (by kernel_rfl) z z (yi_run ((wanted_eq z z z z).trans z) (fun w hst => z)) (ws_q (v := .bool (t251.2 != (0:Int))) 13 [14, 15, 16, 17, 18, 19, 20, 21] (by kernel_rfl) z z (yi_run ((wanted_eq z z z z).trans z) (fun w hst => z)) ?_))))))))))
 refine bsplit (t251.2 != (0:Int)) (fun hc270 => ?_) (fun hc270 => ?_)
 {
 replace hm := bif_t hc270 hm
 refine ws_q (v := .int .i64 t251.2) 14 [15, 16, 17, 18, 19, 20, 21] (by kernel_rfl) z z (yi_run ((wanted_eq z z z (cvb hc270)).trans z) (fun w hst => z)) (ws_q (v := .bool (t251.2 != (5:Int))) 15 [16, 17, 18, 19, 20, 21] (by kernel_rfl) z z (yi_run ((wanted_eq z z z (cvb hc270)).trans z) (fun w hst => z)) (ws_q (v := .bool (t251.2 != (5:Int))) 16 [17, 18, 19, 20, 21] (by kernel_rfl) z z (yi_run ((wanted_eq z z z (cvb hc270)).trans z) (fun w hst => z)) ?_))
 refine bsplit (t251.2 != (5:Int)) (fun hc271 => ?_) (fun hc271 => ?_)
 {
 replace hm := bif_t hc271 hm
 refine ws_q (v := undef) 17 [18, 19, 20, 21] (by kernel_rfl) z z (yi_off ((wanted_eq z z z (cvb hc271)).trans z)) (ws_q (v := undef) 18 [19, 20, 21] (by kernel_rfl) z z (yi_off ((wanted_eq z z z (cvb hc271)).trans z)) (ws_q (v := .bool true) 19 [20, 21] (by kernel_rfl) z z (yi_run ((wanted_eq z z z (cvb hc270)).trans z) (fun w hst => x_pick_t hc271 z z)) (ws_q (v := .bool true) 20 [21] (by kernel_rfl) z z (yi_run ((wanted_eq z z z z).trans z) (fun w hst => x_pick_t hc270 z z)) (wsr (.bool true) 21 z z z (by kernel_rfl) (fun w hst => x_pick_f z z z) ?_))))
 refine ws_nil ?_
 intro w hst
 refine tn ?_
 refine wp_ift z ?_
 refine wp_seq (wrl (wv (.bool false) z z z (wl_nil (tn (wp_ret (then_r ?_))))))
 replace hm := inr_up hm hx276
 obtain rfl := some_inj hm
 refine post_ret (vs := [.bool false]) results5 (rvs_cons (rv_tmp z) rvs_nil) ?_
 exact ⟨_, z, hI0, hst.keep0⟩
}
 {
 replace hm := bif_f hc271 hm
 refine ws_q (v := v256) 17 [18, 19, 20, 21] (by kernel_rfl) rfl rfl (yi_run ((wanted_eq rfl rfl rfl (cvb hc271)).trans rfl) (fun w hst => rfl)) (ws_q (v := .bool (!(t251.1.isNone))) 18 [19, 20, 21] (by kernel_rfl) rfl rfl (yi_run ((wanted_eq rfl rfl rfl (cvb hc271)).trans rfl) (fun w hst => by obtain ⟨a_, ha_, hb_⟩ := at_session_Table_isnil hst; subst ha_; rw [← hb_]; cases a_ <;> kernel_rfl)) (ws_q (v := .bool (!(t251.1.isNone))) 19 [20, 21] (by kernel_rfl) rfl rfl (yi_run ((wanted_eq rfl rfl rfl (cvb hc270)).trans rfl) (fun w hst => x_pick_f hc271 rfl rfl)) (ws_q (v := .bool (!(t251.1.isNone))) 20 [21] (by kernel_rfl) rfl rfl (yi_run ((wanted_eq rfl rfl rfl rfl).trans rfl) (fun w hst => x_pick_t hc270 rfl rfl)) (wsr (.bool (!(t251.1.isNone))) 21 rfl rfl rfl (by kernel_rfl) (fun w hst => x_pick_f rfl rfl rfl) ?_))))
 refine ws_nil ?_
 intro w hst
 refine tn ?_
 refine bsplit (!(t251.1.isNone)) (fun hc272 => ?_) (fun hc272 => ?_)
 {
 replace hm := bif_t hc272 hm
 refine wp_ift (cvb hc272) ?_
 refine wp_seq (wrl (wv (.bool false) z z z (wl_nil (tn (wp_ret (then_r ?_))))))
 replace hm := inr_up hm hx276
 obtain rfl := some_inj hm
 refine post_ret (vs := [.bool false]) results5 (rvs_cons (rv_tmp z) rvs_nil) ?_
 exact ⟨_, z, hI0, hst.keep0⟩
}
 {
 replace hm := bif_f hc272 hm
 refine wp_iff (cvb hc272) ?_
 refine wp_skip (tn ?_)
 replace hst := hst.keep0
 obtain rfl := some_inj hm
 exact ⟨_, hx276, (fu 1 r1_0 z (fu 2 (.int .u16 a2) z (fu 3 (.int .u8 a3) z z))), hst⟩
}
}
}
 {
 replace hm := bif_f hc270 hm
 refine ws_q (v := undef) 14 [15, 16, 17, 18, 19, 20, 21] (by kernel_rfl) z z (yi_off ((wanted_eq z z z (cvb hc270)).trans z)) (ws_q (v := undef) 15 [16, 17, 18, 19, 20, 21] (by kernel_rfl) z z (yi_off ((wanted_eq z z z (cvb hc270)).trans z)) (ws_q (v := undef) 16 [17, 18, 19, 20, 21] (by kernel_rfl) z z (yi_off ((wanted_eq z z z (cvb hc270)).trans z)) (ws_q (v := undef) 17 [18, 19, 20, 21] (by kernel_rfl) z z (yi_off (wanted_undef z z z z)) (ws_q (v := undef) 18 [19, 20, 21] (by kernel_rfl) z z (yi_off (wanted_undef z z z z)) (ws_q (v := undef) 19 [20, 21] (by kernel_rfl) z z (yi_off ((wanted_eq z z z (cvb hc270)).trans z)) (ws_q (v := .bool false) 20 [21] (by kernel_rfl) z z (yi_run ((wanted_eq z z z z).trans z) (fun w hst => x_pick_f hc270 z z)) (wsr (.bool false) 21 z z z (by kernel_rfl) (fun w hst => x_pick_f z z z) ?_)))))))
 refine ws_nil ?_
 intro w hst
 refine tn ?_
 refine wp_iff z ?_
 refine wp_skip (tn ?_)
 replace hst := hst.keep0
 obtain rfl := some_inj hm
 exact ⟨_, hx276, (fu 1 r1_0 z (fu 2 (.int .u16 a2) z (fu 3 (.int .u8 a3) z z))), hst⟩
}
}
}
 {
 clear hst
 rintro _ w277 ⟨σ273, hm, rfl, hst⟩
 dsimp only [law14_SessionJunk_j0] at hm
 refine wp_seq (wrl (wv (r1_0) z z z (wv (.agg #[r1_0, Zi]) z z (by obtain ⟨_, _, hv_, _⟩ := (ro_sliceV f1_0); rw [hv_]; kernel_rfl) ?_)))
 obtain ⟨b279, w280, ew281, eb282, hst⟩ := hst.box [r1_0, Zi] 26
 refine wl_run (v := Pt b279 0) (w' := w280) z z (x_al (by kernel_rfl) ew281 eb282) ?_
 refine wv (Pt b279 0) z z z (wl_nil (tn (wp_seq (wrl ?_))))
 obtain ⟨t284, ht285, hm⟩ := bind_some hm
 refine wc call8 [] z z z ?_
 refine (session_New_ref hst.to0 ht285).mono ?_
 rintro _ w286 ⟨v289, rfl, hst⟩
 refine ⟨_, z, ?_⟩
 replace hst := hst.of1
 refine wv (v289) z z z (wl_nil (tn ?_))
 obtain ⟨y409, hm, hx410⟩ := bind_some hm
 refine wp_cut (fun a w => ∃ (I406 : HL) (z405 : session_Table) (σ407 : Nat → Value), (law14_SessionJunk_j1 a2 a3) z405 = some r ∧ a = Fr 116 (upd (upd (upd σ407 2 (.int .u16 a2)) 3 (.int .u8 a3)) 12 (v289)) ∧ I254.le I406 ∧ St w0 w I406 [at_session_Table v289 z405] R) ?_ ?_
 {
 have hL411 := HL.le.refl I254
 refine wp_seq (wrl (wv (.int .i64 (0:Int)) z z z (wl_nil (tn (wp_block ?_)))))
 replace hst := hst.pull1
 replace hst := at_ref12_Tape_close (pv := Pt b279 0) (x := ({ L := a1, I := (0:Int) } : ref12_Tape)) hst ⟨z, f1_0⟩
 obtain ⟨n365, hm⟩ := loopO_some hm
 refine wp_loop_n (fun n a w => ∃ (I363 : HL) (z360 : ref12_Tape) (z361 : session_Table) (z362 : Int) (σ364 : Nat → Value), loopN (law14_SessionJunk_l2) n (z360, z361, z362) = some y409 ∧ a = Fr 116 (upd (upd (upd (upd (upd σ364 2 (.int .u16 a2)) 3 (.int .u8 a3)) 11 (Pt b279 0)) 12 (v289)) 13 (.int .i64 z362)) ∧ I254.le I363 ∧ St w0 w I363 [at_ref12_Tape (Pt b279 0) z360, at_session_Table v289 z361] R) n365 ⟨_, ({ L := a1, I := (0:Int) } : ref12_Tape), t284, (0:Int), _, hm, (fu 2 (.int .u16 a2) z (fu 3 (.int .u8 a3) z (fu 11 (Pt b279 0) z (fu 12 v289 z (fu 13 (.int .i64 (0:Int)) z z))))), (HL.le.refl _), hst⟩ ?_
 rintro n371 _ w366 ⟨I363, z360, z361, z362, σ364, hm, rfl, hL367, hst⟩
 obtain ⟨n368, y369, rfl, hm, hx370⟩ := loopN_some hm
 dsimp only [law14_SessionJunk_l2] at hm
 replace f0_0 := f0_0.mono (ro_le hL367)
 replace f1_0 := f1_0.mono (ro_le hL367)
 replace hI0 := hI0.trans hL367
 replace hL411 := hL411.trans hL367
 refine wp_seq (wp_seq (wrl (wv (.int .i64 z362) z z z (wv (.bool (decide (z362 < (5:Int)))) z z z (wl_nil (tn ?_))))))
 refine bsplit (decide (z362 < (5:Int))) (fun hc372 => ?_) (fun hc372 => ?_)
 {
 replace hm := bif_t hc372 hm
 refine wp_ift (cvb hc372) ?_
 refine wp_skip (tn (wp_seq (wp_block (wrl ?_))))
 refine wv (v289) z z z (wv (Pt b279 0) z z z ?_)
 obtain ⟨t373, ht374, hm⟩ := bind_some hm
 refine wc call9 [Pt b279 0, I6 (6:Int)] z z z ?_
 refine (ref12_Tape_Next_ref hst.to1 ht374).mono ?_
 rintro _ w375 ⟨rfl, hst⟩
 refine ⟨_, z, ?_⟩
 replace hst := hst.of1
 refine wv (.int .u64 (u64.wrap t373.1)) z z (by kernel_rfl) (wv (Pt b279 0) z z z ?_)
 obtain ⟨t378, ht379, hm⟩ := bind_some hm
 refine wc call9 [Pt b279 0, I6 (5:Int)] z z z ?_
 refine (ref12_Tape_Next_ref hst.to1 ht379).mono ?_
 rintro _ w380 ⟨rfl, hst⟩
 refine ⟨_, z, ?_⟩
 replace hst := hst.of1
 refine wv (.int .i64 (i64.wrap ((1:Int) + t378.1))) z z z (wv (.int .u64 (u64.wrap (i64.wrap ((1:Int) + t378.1)))) z z (by kernel_rfl) (wv (Pt b279 0) z z z ?_))
 obtain ⟨t383, ht384, hm⟩ := bind_some hm
 refine wc call10 [Pt b279 0] z z z ?_
 refine (ref13_OfReply_ref hst.to1 ht384).mono ?_
 rintro _ w385 ⟨I386, v388, v390, rfl, hI387, hst⟩
 refine ⟨_, z, ?_⟩
 replace hst := hst.of3
 replace f0_0 := f0_0.mono (ro_le hI387)
 replace f1_0 := f1_0.mono (ro_le hI387)
 replace hI0 := hI0.trans hI387
 replace hL411 := hL411.trans hI387
 replace hL367 := hL367.trans hI387
 replace hst := hst.pull3
 replace hst := objO_some hst
 replace hst := hst.pull1
 obtain ⟨I392, hI393, f394, hst⟩ := hst.own_fix
 replace f0_0 := f0_0.mono (ro_le hI393)
 replace f1_0 := f1_0.mono (ro_le hI393)
 replace hI0 := hI0.trans hI393
 replace hL411 := hL411.trans hI393
 replace hL367 := hL367.trans hI393
 replace hst := hst.pull1
 obtain ⟨I395, hI396, f397, hst⟩ := hst.own_fix
 replace f0_0 := f0_0.mono (ro_le hI396)
 replace f1_0 := f1_0.mono (ro_le hI396)
 replace f394 := f394.mono (ro_le hI396)
 replace hI0 := hI0.trans hI396
 replace hL411 := hL411.trans hI396
 replace hL367 := hL367.trans hI396
 obtain ⟨t398, ht399, hm⟩ := bind_some hm
 refine wc call12 [v289, U6 (u64.wrap t373.1), U6 (u64.wrap (i64.wrap ((1:Int) + t378.1))), .agg #[I6 t383.1.E, U6 t383.1.Epoch, U6 t383.1.Index, v388, v390]] z z z ?_
 refine (session_Table_Put_ref f394 f397 hst.to1 ht399).mono ?_
 rintro _ w400 ⟨rfl, hst⟩
 refine ⟨_, z, ?_⟩
 replace hst := hst.of1
 rcases he404 : t398.2 with _ | y403
 · rw [he404] at hm; cases hm
 rw [he404] at hm hst; dsimp only at hm; replace hst := objO_get hst
 refine wl_nil (blk_n (tn (wrl (wv (.int .i64 z362) z z z (wv (.int .i64 (i64.wrap (z362 + (1:Int)))) z z z (wv (.int .i64 (i64.wrap (z362 + (1:Int)))) z z z (wl_nil (tn ?_))))))))
 replace hst := hst.pull1.keep2
 obtain rfl := some_inj hm
 exact ⟨_, Nat.lt_succ_self _, _, t383.2, y403, (i64.wrap (z362 + (1:Int))), _, hx370, (fu 2 (.int .u16 a2) z (fu 3 (.int .u8 a3) z (fu 11 (Pt b279 0) z (fu 12 v289 z (fu 13 (.int .i64 (i64.wrap (z362 + (1:Int)))) z z))))), hL367, hst⟩
}
 {
 replace hm := bif_f hc372 hm
 refine wp_iff (cvb hc372) ?_
 refine wp_exit (then_x (then_x ?_))
 replace hm := inr_up hm hx370
 refine blk_x (tn ?_)
 replace hst := hst.pull1.keep1
 obtain rfl := some_inj hm
 exact ⟨_, z361, _, hx410, (fu 2 (.int .u16 a2) z (fu 3 (.int .u8 a3) z (fu 12 v289 z z))), hL411, hst⟩
}
}
 {
 clear hst
 rintro _ w412 ⟨I406, z405, σ407, hm, rfl, hL408, hst⟩
 dsimp only [law14_SessionJunk_j1] at hm
 replace f0_0 := f0_0.mono (ro_le hL408)
 replace f1_0 := f1_0.mono (ro_le hL408)
 replace hI0 := hI0.trans hL408
 refine wp_seq (wrl (wv (v289) z z z ?_))
 replace hst := objO_some hst
 obtain ⟨t413, ht414, hm⟩ := bind_some hm
 refine wc call19 [v289] z z z ?_
 refine (session_Table_Encode_ref hst.to1 ht414).mono ?_
 rintro _ w415 ⟨v418, rfl, hst⟩
 refine ⟨_, z, ?_⟩
 replace hst := hst.of2.pull1
 replace hst := objO_get hst
 refine wv (v418) z z z (wl_nil (tn (wp_seq (wrl (wv (.int .u16 a2) z z z (wv (.int .i64 (i64.wrap a2)) z z (by kernel_rfl) (wv (v418) z z z (wv (.int .i64 ((t413).length : Int)) z z (x_len z underlying22 hst.sv1) ?_))))))))
 obtain ⟨hg420, hm⟩ := gd_some hm
 refine wv (.int .i64 (Int.tmod (i64.wrap a2) ((t413).length : Int))) z z (x_rem (not_t hg420) z z) (wv (.int .i64 (Int.tmod (i64.wrap a2) ((t413).length : Int))) z z z (wl_nil (tn (wp_seq (wrl (wv (v418) z z z (wv (.int .i64 (Int.tmod (i64.wrap a2) ((t413).length : Int))) z z z (wv (v418) z z z (wv (.int .i64 (Int.tmod (i64.wrap a2) ((t413).length : Int))) z z z ?_)))))))))
 obtain ⟨x421, hx422, hm⟩ := bind_some hm
 obtain ⟨h423, h424, hi425⟩ := geto_some hx422
 refine wv (.pointer (some (eAddr v418 ((Int.tmod (i64.wrap a2) ((t413).length : Int)).toNat * 1 + 0)))) z z (x_index z z underlying22 sizeOf5 hst.sv1 h423 h424) (wv (.int .u8 x421) z z (x_load z isAgg5 (hst.ol1 hi425 (by rintro _ rfl; rfl))) (wv (.int .u8 a3) z z z (wv (.int .u8 (bXor .u8 x421 a3)) z z z (wv (.pointer (some (eAddr v418 ((Int.tmod (i64.wrap a2) ((t413).length : Int)).toNat * 1 + 0)))) z z (x_index z z underlying22 sizeOf5 hst.sv1 h423 h424) ?_))))
 replace hst := hst.pull1
 obtain ⟨w426, hr427, hst⟩ := hst.own_store (P := prog) (t := 5) (y := (bXor .u8 x421 a3)) hi425 0 (.int .u8 (bXor .u8 x421 a3)) sizeOf5 (Nat.le_of_ble_eq_true z) (oC z oN) (by rintro _ rfl; rfl)
 have hi428 := set_get hi425 (bXor .u8 x421 a3)
 have h429 := set_lt h424 (Int.tmod (i64.wrap a2) ((t413).length : Int)).toNat (bXor .u8 x421 a3)
 refine wl_unit z z (x_unit hr427) ?_
 refine wl_nil (tn (wp_seq (wrl (wv (v418) z z z ?_))))
 obtain ⟨I430, hI431, f432, hst⟩ := hst.own_fix
 replace f0_0 := f0_0.mono (ro_le hI431)
 replace f1_0 := f1_0.mono (ro_le hI431)
 replace hI0 := hI0.trans hI431
 obtain ⟨t433, ht434, hm⟩ := bind_some hm
 refine wc call18 [v418] z z z ?_
 refine (session_Decode_ref f432 hst.to0 ht434).mono ?_
 rintro _ w435 ⟨I436, v438, rfl, hI437, hst⟩
 refine ⟨_, z, ?_⟩
 replace hst := hst.of1
 replace f0_0 := f0_0.mono (ro_le hI437)
 replace f1_0 := f1_0.mono (ro_le hI437)
 replace f432 := f432.mono (ro_le hI437)
 replace hI0 := hI0.trans hI437
 refine wv (.tuple #[v438, I6 t433.2]) z z z (wv (v438) z z z (wv (.int .i64 t433.2) z z z (wv (v438) z z z (wv (.int .i64 t433.2) z z z (wl_nil (tn (wp_seq ?_)))))))
 refine wp_region_St hst 19 [0, 1, 2, 3, 4, 5, 6, 7, 8, 9, 10, 11, 12, 13, 14, 15, 16, 17, 18] [0, 1, 3, 7, 15, 31, 7, 71, 255, 511, 1023, 2047, 4095, 8191, 16383, 32767, 65535, 131071, 262143] [] z (by kernel_rfl) (by kernel_rfl) Try.mixed (by kernel_rfl) ?_
 refine wsr (.int .i64 t433.2) 0 z z z (by kernel_rfl) (fun w hst => z) (wsr (.bool (t433.2 == (0:Int))) 1 z z z (by kernel_rfl) (fun w hst => z) (wsr (.bool (t433.2 == (0:Int))) 2 z z z (by kernel_rfl) (fun w hst => z) ?_))
 refine bsplit (t433.2 == (0:Int)) (fun hc440 => ?_) (fun hc440 => ?_)
 {
 replace hm := bif_t hc440 hm
 refine ws_q (v := v438) 3 [4, 5, 6, 7, 8, 9, 10, 11, 12, 13, 14, 15, 16, 17, 18] (by kernel_rfl) z z (yi_run ((wanted_eq z z z (cvb hc440)).trans z) (fun w hst => z)) (ws_q (v := v418) 6 [4, 5, 7, 8, 9, 10, 11, 12, 13, 14, 15, 16, 17, 18] (by kernel_rfl) z z (yi_run ((wanted_eq z z z (cvb hc440)).trans z) (fun w hst => z)) (ws_q (v := .string (toStr (t413.set (Int.tmod (i64.wrap a2) ((t413).length : Int)).toNat (bXor .u8 x421 a3)))) 7 [4, 5, 8, 9, 10, 11, 12, 13, 14, 15, 16, 17, 18] (by kernel_rfl) z z (yi_run ((wanted_eq z z z (cvb hc440)).trans z) (fun w hst => x_tostr underlying22 underlying9 underlying5 z (Src.of_ro hst f432))) ?_))
 refine ws_e1 4 (by kernel_rfl) ?_
 refine nxe [5, 8, 9, 10, 11, 12, 13, 14, 15, 16, 17, 18] (by kernel_rfl) z ((wanted_eq z z z (cvb hc440)).trans z) ?_
 clear hst
 intro w hst
 obtain ⟨t441, ht442, hm⟩ := bind_some hm
 refine wec call19 [v438] z z ?_
 refine (session_Table_Encode_ref hst.to1 ht442).mono ?_
 rintro _ w443 ⟨v446, rfl, hst⟩
 refine ⟨_, z, ?_⟩
 replace hst := hst.of2
 refine ws_next (pend' := [(7, .string (toStr (t413.set (Int.tmod (i64.wrap a2) ((t413).length : Int)).toNat (bXor .u8 x421 a3)))), (6, v418)]) hst (by kernel_rfl) (pk_cons z (yi_run ((wanted_eq z z z (cvb hc440)).trans z) (fun w hst => x_tostr underlying22 underlying9 underlying5 z (Src.of_ro hst f432))) (pk_cons z (yi_run ((wanted_eq z z z (cvb hc440)).trans z) (fun w hst => z)) pk_nil)) ?_
 refine ws_q (v := .string (toStr t441)) 5 [8, 9, 10, 11, 12, 13, 14, 15, 16, 17, 18] (by kernel_rfl) z z (yi_run ((wanted_eq z z z (cvb hc440)).trans z) (fun w hst => x_tostr underlying22 underlying9 underlying5 z hst.src0)) (ws_q (v := .bool (sEq (toStr t441) (toStr (t413.set (Int.tmod (i64.wrap a2) ((t413).length : Int)).toNat (bXor .u8 x421 a3))))) 8 [9, 10, 11, 12, 13, 14, 15, 16, 17, 18] (by kernel_rfl) z z (yi_run ((wanted_eq z z z (cvb hc440)).trans z) (fun w hst => by kernel_rfl)) (wsr (.bool (sEq (toStr t441) (toStr (t413.set (Int.tmod (i64.wrap a2) ((t413).length : Int)).toNat (bXor .u8 x421 a3))))) 9 z z z (by kernel_rfl) (fun w hst => x_pick_t hc440 z z) (wsr (.bool (sEq (toStr t441) (toStr (t413.set (Int.tmod (i64.wrap a2) ((t413).length : Int)).toNat (bXor .u8 x421 a3))))) 10 z z z (by kernel_rfl) (fun w hst => z) ?_)))
 refine bsplit (sEq (toStr t441) (toStr (t413.set (Int.tmod (i64.wrap a2) ((t413).length : Int)).toNat (bXor .u8 x421 a3)))) (fun hc448 => ?_) (fun hc448 => ?_)
 {
 replace hm := bif_t hc448 hm
 refine ws_q (v := undef) 11 [12, 13, 14, 15, 16, 17, 18] (by kernel_rfl) z z (yi_off ((wanted_eq z z z (cvb hc448)).trans z)) (ws_q (v := undef) 12 [13, 14, 15, 16, 17, 18] (by kernel_rfl) z z (yi_off ((wanted_eq z z z (cvb hc448)).trans z)) (ws_q (v := undef) 13 [14, 15, 16, 17, 18] (by kernel_rfl) z z (yi_off ((wanted_eq z z z (cvb hc448)).trans z)) (ws_q (v := undef) 14 [15, 16, 17, 18] (by kernel_rfl) z z (yi_off (wanted_undef z z z z)) (ws_q (v := undef) 15 [16, 17, 18] (by kernel_rfl) z z (yi_off (wanted_undef z z z z)) (ws_q (v := undef) 16 [17, 18] (by kernel_rfl) z z (yi_off ((wanted_eq z z z (cvb hc448)).trans z)) (wsr (.bool true) 17 z z z (by kernel_rfl) (fun w hst => x_pick_t hc448 z z) (wsr (.bool true) 18 z z z (by kernel_rfl) (fun w hst => z) ?_)))))))
 refine ws_nil ?_
 intro w hst
 refine tn (wp_ret ?_)
 obtain rfl := some_inj hm
 refine post_ret (vs := [.bool true]) results5 (rvs_cons (rv_tmp z) rvs_nil) ?_
 exact ⟨_, z, hI0, hst.keep0⟩
}
 {
 replace hm := bif_f hc448 hm
 refine ws_q (v := .int .i64 t433.2) 11 [12, 13, 14, 15, 16, 17, 18] (by kernel_rfl) z z (yi_run ((wanted_eq z z z (cvb hc448)).trans z) (fun w hst => z)) (ws_q (v := .bool (t433.2 == (5:Int))) 12 [13, 14, 15, 16, 17, 18] (by kernel_rfl) z z (yi_run ((wanted_eq z z z (cvb hc448)).trans z) (fun w hst => z)) (ws_q (v := .bool (t433.2 == (5:Int))) 13 [14, 15, 16, 17, 18] (by kernel_rfl) z z (yi_run ((wanted_eq z z z (cvb hc448)).trans z) (fun w hst => z)) ?_))
 refine bsplit (t433.2 == (5:Int)) (fun hc449 => ?_) (fun hc449 => ?_)
 {
 replace hm := bif_t hc449 hm
 refine ws_q (v := v438) 14 [15, 16, 17, 18] (by kernel_rfl) rfl rfl (yi_run ((wanted_eq rfl rfl rfl (cvb hc449)).trans rfl) (fun w hst => rfl)) (ws_q (v := .bool (t433.1.isNone)) 15 [16, 17, 18] (by kernel_rfl) rfl rfl (yi_run ((wanted_eq rfl rfl rfl (cvb hc449)).trans rfl) (fun w hst => by obtain ⟨a_, ha_, hb_⟩ := at_session_Table_isnil hst.pull1; subst ha_; rw [← hb_]; cases a_ <;> kernel_rfl)) (ws_q (v := .bool (t433.1.isNone)) 16 [17, 18] (by kernel_rfl) rfl rfl (yi_run ((wanted_eq rfl rfl rfl (cvb hc448)).trans rfl) (fun w hst => x_pick_t hc449 rfl rfl)) (wsr (.bool (t433.1.isNone)) 17 rfl rfl rfl (by kernel_rfl) (fun w hst => x_pick_f hc448 rfl rfl) (wsr (.bool (t433.1.isNone)) 18 rfl rfl rfl (by kernel_rfl) (fun w hst => rfl) ?_))))
 refine ws_nil ?_
 intro w hst
 refine tn (wp_ret ?_)
 obtain rfl := some_inj hm
 refine post_ret (vs := [.bool (t433.1.isNone)]) results5 (rvs_cons (rv_tmp z) rvs_nil) ?_
 exact ⟨_, z, hI0, hst.keep0⟩
}
 {
 replace hm := bif_f hc449 hm
 refine ws_q (v := undef) 14 [15, 16, 17, 18] (by kernel_rfl) z z (yi_off ((wanted_eq z z z (cvb hc449)).trans z)) (ws_q (v := undef) 15 [16, 17, 18] (by kernel_rfl) z z (yi_off ((wanted_eq z z z (cvb hc449)).trans z)) (ws_q (v := .bool false) 16 [17, 18] (by kernel_rfl) z z (yi_run ((wanted_eq z z z (cvb hc448)).trans z) (fun w hst => x_pick_f hc449 z z)) (wsr (.bool false) 17 z z z (by kernel_rfl) (fun w hst => x_pick_f hc448 z z) (wsr (.bool false) 18 z z z (by kernel_rfl) (fun w hst => z) ?_))))
 refine ws_nil ?_
 intro w hst
 refine tn (wp_ret ?_)
 obtain rfl := some_inj hm
 refine post_ret (vs := [.bool false]) results5 (rvs_cons (rv_tmp z) rvs_nil) ?_
 exact ⟨_, z, hI0, hst.keep0⟩
}
}
}
 {
 replace hm := bif_f hc440 hm
 refine ws_q (v := undef) 3 [4, 5, 6, 7, 8, 9, 10, 11, 12, 13, 14, 15, 16, 17, 18] (by kernel_rfl) z z (yi_off ((wanted_eq z z z (cvb hc440)).trans z)) (ws_q (v := undef) 4 [5, 6, 7, 8, 9, 10, 11, 12, 13, 14, 15, 16, 17, 18] (by kernel_rfl) z z (yi_off ((wanted_eq z z z (cvb hc440)).trans z)) (ws_q (v := undef) 5 [6, 7, 8, 9, 10, 11, 12, 13, 14, 15, 16, 17, 18] (by kernel_rfl) z z (yi_off ((wanted_eq z z z (cvb hc440)).trans z)) (ws_q (v := undef) 6 [7, 8, 9, 10, 11, 12, 13, 14, 15, 16, 17, 18] (by kernel_rfl) z z (yi_off ((wanted_eq z z z (cvb hc440)).trans z)) (ws_q (v := undef) 7 [8, 9, 10, 11, 12, 13, 14, 15, 16, 17, 18] (by kernel_rfl) z z (yi_off ((wanted_eq z z z (cvb hc440)).trans z)) (ws_q (v := undef) 8 [9, 10, 11, 12, 13, 14, 15, 16, 17, 18] (by kernel_rfl) z z (yi_off ((wanted_eq z z z (cvb hc440)).trans z)) (wsr (.bool false) 9 z z z (by kernel_rfl) (fun w hst => x_pick_f hc440 z z) (wsr (.bool false) 10 z z z (by kernel_rfl) (fun w hst => z) (ws_q (v := .int .i64 t433.2) 11 [12, 13, 14, 15, 16, 17, 18] (by kernel_rfl) z z (yi_run ((wanted_eq z z z z).trans z) (fun w hst => z)) (ws_q (v := .bool (t433.2 == (5:Int))) 12 [13, 14, 15, 16, 17, 18] (by kernel_rfl) z z (yi_run ((wanted_eq z z z z).trans z) (fun w hst => z)) (ws_q (v := .bool (t433.2 == (5:Int))) 13 [14, 15, 16, 17, 18] (by kernel_rfl) z z (yi_run ((wanted_eq z z z z).trans z) (fun w hst => z)) ?_))))))))))
 refine bsplit (t433.2 == (5:Int)) (fun hc450 => ?_) (fun hc450 => ?_)
 {
 replace hm := bif_t hc450 hm
 refine ws_q (v := v438) 14 [15, 16, 17, 18] (by kernel_rfl) rfl rfl (yi_run ((wanted_eq rfl rfl rfl (cvb hc450)).trans rfl) (fun w hst => rfl)) (ws_q (v := .bool (t433.1.isNone)) 15 [16, 17, 18] (by kernel_rfl) rfl rfl (yi_run ((wanted_eq rfl rfl rfl (cvb hc450)).trans rfl) (fun w hst => by obtain ⟨a_, ha_, hb_⟩ := at_session_Table_isnil hst; subst ha_; rw [← hb_]; cases a_ <;> kernel_rfl)) (ws_q (v := .bool (t433.1.isNone)) 16 [17, 18] (by kernel_rfl) rfl rfl (yi_run ((wanted_eq rfl rfl rfl rfl).trans rfl) (fun w hst => x_pick_t hc450 rfl rfl)) (wsr (.bool (t433.1.isNone)) 17 rfl rfl rfl (by kernel_rfl) (fun w hst => x_pick_f rfl rfl rfl) (wsr (.bool (t433.1.isNone)) 18 rfl rfl rfl (by kernel_rfl) (fun w hst => rfl) ?_))))
 refine ws_nil ?_
 intro w hst
 refine tn (wp_ret ?_)
 obtain rfl := some_inj hm
 refine post_ret (vs := [.bool (t433.1.isNone)]) results5 (rvs_cons (rv_tmp z) rvs_nil) ?_
 exact ⟨_, z, hI0, hst.keep0⟩
}
 {
 replace hm := bif_f hc450 hm
 refine ws_q (v := undef) 14 [15, 16, 17, 18] (by kernel_rfl) z z (yi_off ((wanted_eq z z z (cvb hc450)).trans z)) (ws_q (v := undef) 15 [16, 17, 18] (by kernel_rfl) z z (yi_off ((wanted_eq z z z (cvb hc450)).trans z)) (ws_q (v := .bool false) 16 [17, 18] (by kernel_rfl) z z (yi_run ((wanted_eq z z z z).trans z) (fun w hst => x_pick_f hc450 z z)) (wsr (.bool false) 17 z z z (by kernel_rfl) (fun w hst => x_pick_f z z z) (wsr (.bool false) 18 z z z (by kernel_rfl) (fun w hst => z) ?_))))
 refine ws_nil ?_
 intro w hst
 refine tn (wp_ret ?_)
 obtain rfl := some_inj hm
 refine post_ret (vs := [.bool false]) results5 (rvs_cons (rv_tmp z) rvs_nil) ?_
 exact ⟨_, z, hI0, hst.keep0⟩
}
}
}
}
}
}
}
}

end Go.Proofs.Ytkfifhkjdibadaa
