/- The Go functions refine their models, part 4. -/
import Derived.Test.YtldfdainhdiffaaMailBytesR3
set_option linter.unusedVariables false
set_option linter.unusedSimpArgs false
set_option maxRecDepth 100000
set_option maxHeartbeats 4000000
namespace Go.Proofs.Ytldfdainhdiffaa
open Go Go.V
open _root_.Go.Proofs.Try IntKind
attribute [local irreducible] wpList Code.wp wpQuiet Calls bodyPost Oper.wp wpS Nx PendOK YieldsIn
theorem ref02_Bytes_ref {w0 w : World} {I : HL} {R : SP} {a0 : (List Int)} {r0_0 : Value} {a1 : (List Int)} {r1_0 : Value} (f0_0 : Rd (tyInt .u8) R I r0_0 a0) (f1_0 : Rd (tyInt .u8) R I r1_0 a1) (hst : St w0 w I [] R) {r : ((List Int))} (hm : ref02_Bytes a0 a1 = some r) :
  Calls prog 38 #[r0_0, r1_0] w fun e w' => ∃ (q0_0 : Value), e = .returned (q0_0) ∧ St w0 w' I [ownS (tyInt .u8) q0_0 r] R := by {
 unfold ref02_Bytes at hm
 refine calls_start (args := [r0_0, r1_0]) func38 z ntmps38 (Nat.le_of_ble_eq_true z) ?_
 refine wp_seq (wrl (wv ((.slice none 0 0)) z z z (wl_nil (tn (wp_seq (wrl (wv (r0_0) z z z (wv (r1_0) z z z (wv (.int .i64 ((a1).length : Int)) z z (x_len z underlying22 (rd_sliceV f1_0)) (wv (.int .u64 (u64.wrap ((a1).length : Int))) z z (by kernel_rfl) ?_))))))))))
 obtain ⟨t363, ht364, hm⟩ := bind_some hm
 refine wc call34 [r0_0, U6 (u64.wrap ((a1).length : Int)), I6 (4:Int)] z z z ?_
 refine (ref02_Num_ref (f0_0.mono (rd_weak _)) hst.to0 ht364).mono ?_
 rintro _ w365 ⟨v368, rfl, hst⟩
 refine ⟨_, z, ?_⟩
 replace hst := hst.of1
 refine wv (r1_0) z z z ?_
 obtain ⟨hg370, hm⟩ := gd_some hm
 obtain ⟨v371, w372, hr373, hst⟩ := run_append elem_22 underlying22 hst (Src.of_rd hst f1_0 flat_int) (room_of hg370 z) 22
 refine wl_run (v := v371) (w' := w372) z z (x_append z z hr373) ?_
 refine wv (v371) z z z (wl_nil (tn (wp_ret ?_)))
 obtain rfl := some_inj hm
 refine post_ret (vs := [v371]) results38 (rvs_cons (rv_tmp z) rvs_nil) ?_
 exact ⟨v371, z, hst.keep1⟩
}

theorem ref13_Message_ref {w0 w : World} {I : HL} {R : SP} {a0 : (List Int)} {r0_0 : Value} {a1 : api_Message} {r1_0 : Value} {r1_1 : Value} (f0_0 : Rd (tyInt .u8) R I r0_0 a0) (f1_0 : Rd ty_api_Entry R I r1_0 a1.Entries) (f1_1 : Rd (tyInt .u8) R I r1_1 a1.S.Data) (hst : St w0 w I [] R) {r : ((List Int))} (hm : ref13_Message a0 a1 = some r) :
  Calls prog 35 #[r0_0, .agg #[U1 a1.Kind, I6 a1.From, I6 a1.To, U6 a1.Term, U6 a1.Index, U6 a1.LogTerm, U6 a1.Commit, .bool a1.OK, r1_0, U6 a1.S.Index, U6 a1.S.Term, U6 a1.S.Voters, r1_1]] w fun e w' => ∃ (q0_0 : Value), e = .returned (q0_0) ∧ St w0 w' I [ownS (tyInt .u8) q0_0 r] R := by {
 unfold ref13_Message at hm
 refine calls_start (args := [r0_0, .agg #[U1 a1.Kind, I6 a1.From, I6 a1.To, U6 a1.Term, U6 a1.Index, U6 a1.LogTerm, U6 a1.Commit, .bool a1.OK, r1_0, U6 a1.S.Index, U6 a1.S.Term, U6 a1.S.Voters, r1_1]]) func35 z ntmps35 (Nat.le_of_ble_eq_true z) ?_
 refine wp_seq (wrl ?_)
 obtain ⟨b539, w540, ew541, eb542, hst⟩ := hst.box [U1 a1.Kind, I6 a1.From, I6 a1.To, U6 a1.Term, U6 a1.Index, U6 a1.LogTerm, U6 a1.Commit, .bool a1.OK, r1_0, U6 a1.S.Index, U6 a1.S.Term, U6 a1.S.Voters, r1_1] 30
 refine wl_run (v := Pt b539 0) (w' := w540) z z (x_al (by kernel_rfl) ew541 eb542) ?_
 refine wv ((.slice none 0 0)) z z z (wl_nil (tn (wp_seq (wrl (wv (r0_0) z z z (wv (Pt b539 0) z z (x_field z underlying30 z sizeOf5 z) (wv (.int .u8 a1.Kind) z z (x_load z isAgg5 (hst.bc0 z)) (wv (.int .u64 (u64.wrap a1.Kind)) z z (by kernel_rfl) ?_))))))))
 obtain ⟨t545, ht546, hm⟩ := bind_some hm
 refine wc call34 [r0_0, U6 (u64.wrap a1.Kind), I6 (1:Int)] z z z ?_
 refine (ref02_Num_ref (f0_0.mono (rd_weak _)) hst.to0 ht546).mono ?_
 rintro _ w547 ⟨v550, rfl, hst⟩
 refine ⟨_, z, ?_⟩
 replace hst := hst.of1
 refine wv (v550) z z z (wl_nil (tn (wp_seq ?_)))
 refine wp_region_St hst 10 [0, 1, 2, 3, 4, 5, 6, 7, 8, 9] [0, 0, 2, 6, 15, 0, 32, 96, 255, 511] [9] z (by kernel_rfl) (by kernel_rfl) Try.mixed (by kernel_rfl) ?_
 refine wsr (v550) 0 z z z (by kernel_rfl) (fun w hst => z) (wsr (Pt b539 1) 1 z z z (by kernel_rfl) (fun w hst => x_field z underlying30 z sizeOf3 z) (wsr (.int .i64 a1.From) 2 z z z (by kernel_rfl) (fun w hst => x_load z isAgg3 (hst.bc1 z)) (wsr (.int .u64 (u64.wrap a1.From)) 3 z z z (by kernel_rfl) (fun w hst => by kernel_rfl) (wsr (Pt b539 2) 5 z z z (by kernel_rfl) (fun w hst => x_field z underlying30 z sizeOf3 z) (wsr (.int .i64 a1.To) 6 z z z (by kernel_rfl) (fun w hst => x_load z isAgg3 (hst.bc1 z)) (wsr (.int .u64 (u64.wrap a1.To)) 7 z z z (by kernel_rfl) (fun w hst => by kernel_rfl) ?_))))))
 refine ws_e1 4 (by kernel_rfl) ?_
 refine nxe [8, 9] (by kernel_rfl) z z ?_
 clear hst
 intro w hst
 obtain ⟨css552, hq553, hst⟩ := hst.own_open
 obtain ⟨t554, ht555, hm⟩ := bind_some hm
 refine wec call34 [v550, U6 (u64.wrap a1.From), I6 (1:Int)] z z ?_
 refine (ref02_Num_ref (hst.rdrow0 hq553) hst.to0 ht555).mono ?_
 rintro _ w556 ⟨v559, rfl, hst⟩
 refine ⟨_, z, ?_⟩
 replace hst := hst.of1.pull1.own_close hq553
 refine ws_next (pend' := [(7, U6 (u64.wrap a1.To)), (6, I6 a1.To), (5, Pt b539 2)]) hst (by kernel_rfl) (pkr z z (fun w hst => by kernel_rfl) (pkr z z (fun w hst => x_load z isAgg3 (hst.bc2 z)) (pkr z z (fun w hst => x_field z underlying30 z sizeOf3 z) pk_nil))) ?_
 refine ws_e1 8 (by kernel_rfl) ?_
 refine nxe [9] (by kernel_rfl) z z ?_
 clear hst
 intro w hst
 replace hst := hst.pull1
 obtain ⟨css561, hq562, hst⟩ := hst.own_open
 obtain ⟨t563, ht564, hm⟩ := bind_some hm
 refine wec call34 [v559, U6 (u64.wrap a1.To), I6 (1:Int)] z z ?_
 refine (ref02_Num_ref (hst.rdrow0 hq562) hst.to0 ht564).mono ?_
 rintro _ w565 ⟨v568, rfl, hst⟩
 refine ⟨_, z, ?_⟩
 replace hst := hst.of1.pull1.own_close hq562
 refine ws_next (pend' := []) hst (by kernel_rfl) pk_nil ?_
 refine ws_e1 9 (by kernel_rfl) ?_
 refine nxe [] (by kernel_rfl) z z ?_
 clear hst
 intro w hst
 refine we_run (v := v568) (w' := w) z z ?_
 refine ws_next (pend' := []) hst (by kernel_rfl) pk_nil ?_
 refine ws_nil ?_
 intro w hst
 refine tn (wp_seq ?_)
 refine wp_region_St hst 8 [0, 1, 2, 3, 4, 5, 6, 7] [0, 0, 2, 7, 0, 16, 63, 127] [7] z (by kernel_rfl) (by kernel_rfl) Try.mixed (by kernel_rfl) ?_
 refine wsr (v568) 0 z z z (by kernel_rfl) (fun w hst => z) (wsr (Pt b539 3) 1 z z z (by kernel_rfl) (fun w hst => x_field z underlying30 z sizeOf25 z) (wsr (.int .u64 a1.Term) 2 z z z (by kernel_rfl) (fun w hst => x_load z isAgg25 (hst.bc3 z)) (wsr (Pt b539 4) 4 z z z (by kernel_rfl) (fun w hst => x_field z underlying30 z sizeOf25 z) (wsr (.int .u64 a1.Index) 5 z z z (by kernel_rfl) (fun w hst => x_load z isAgg25 (hst.bc3 z)) ?_))))
 refine ws_e1 3 (by kernel_rfl) ?_
 refine nxe [6, 7] (by kernel_rfl) z z ?_
 clear hst
 intro w hst
 replace hst := hst.pull1
 obtain ⟨css570, hq571, hst⟩ := hst.own_open
 obtain ⟨t572, ht573, hm⟩ := bind_some hm
 refine wec call34 [v568, U6 a1.Term, I6 (8:Int)] z z ?_
 refine (ref02_Num_ref (hst.rdrow0 hq571) hst.to0 ht573).mono ?_
 rintro _ w574 ⟨v577, rfl, hst⟩
 refine ⟨_, z, ?_⟩
 replace hst := hst.of1.pull1.own_close hq571
 refine ws_next (pend' := [(5, U6 a1.Index), (4, Pt b539 4)]) hst (by kernel_rfl) (pkr z z (fun w hst => x_load z isAgg25 (hst.bc4 z)) (pkr z z (fun w hst => x_field z underlying30 z sizeOf25 z) pk_nil)) ?_
 refine ws_e1 6 (by kernel_rfl) ?_
 refine nxe [7] (by kernel_rfl) z z ?_
 clear hst
 intro w hst
 replace hst := hst.pull1
 obtain ⟨css579, hq580, hst⟩ := hst.own_open
 obtain ⟨t581, ht582, hm⟩ := bind_some hm
 refine wec call34 [v577, U6 a1.Index, I6 (8:Int)] z z ?_
 refine (ref02_Num_ref (hst.rdrow0 hq580) hst.to0 ht582).mono ?_
 rintro _ w583 ⟨v586, rfl, hst⟩
 refine ⟨_, z, ?_⟩
 replace hst := hst.of1.pull1.own_close hq580
 refine ws_next (pend' := []) hst (by kernel_rfl) pk_nil ?_
 refine ws_e1 7 (by kernel_rfl) ?_
 refine nxe [] (by kernel_rfl) z z ?_
 clear hst
 intro w hst
 refine we_run (v := v586) (w' := w) z z ?_
 refine ws_next (pend' := []) hst (by kernel_rfl) pk_nil ?_
 refine ws_nil ?_
 intro w hst
 refine tn (wp_seq ?_)
 refine wp_region_St hst 8 [0, 1, 2, 3, 4, 5, 6, 7] [0, 0, 2, 7, 0, 16, 63, 127] [7] z (by kernel_rfl) (by kernel_rfl) Try.mixed (by kernel_rfl) ?_
 refine wsr (v586) 0 z z z (by kernel_rfl) (fun w hst => z) (wsr (Pt b539 5) 1 z z z (by kernel_rfl) (fun w hst => x_field z underlying30 z sizeOf25 z) (wsr (.int .u64 a1.LogTerm) 2 z z z (by kernel_rfl) (fun w hst => x_load z isAgg25 (hst.bc5 z)) (wsr (Pt b539 6) 4 z z z (by kernel_rfl) (fun w hst => x_field z underlying30 z sizeOf25 z) (wsr (.int .u64 a1.Commit) 5 z z z (by kernel_rfl) (fun w hst => x_load z isAgg25 (hst.bc5 z)) ?_))))
 refine ws_e1 3 (by kernel_rfl) ?_
 refine nxe [6, 7] (by kernel_rfl) z z ?_
 clear hst
 intro w hst
 replace hst := hst.pull1
 obtain ⟨css588, hq589, hst⟩ := hst.own_open
 obtain ⟨t590, ht591, hm⟩ := bind_some hm
 refine wec call34 [v586, U6 a1.LogTerm, I6 (8:Int)] z z ?_
 refine (ref02_Num_ref (hst.rdrow0 hq589) hst.to0 ht591).mono ?_
 rintro _ w592 ⟨v595, rfl, hst⟩
 refine ⟨_, z, ?_⟩
 replace hst := hst.of1.pull1.own_close hq589
 refine ws_next (pend' := [(5, U6 a1.Commit), (4, Pt b539 6)]) hst (by kernel_rfl) (pkr z z (fun w hst => x_load z isAgg25 (hst.bc6 z)) (pkr z z (fun w hst => x_field z underlying30 z sizeOf25 z) pk_nil)) ?_
 refine ws_e1 6 (by kernel_rfl) ?_
 refine nxe [7] (by kernel_rfl) z z ?_
 clear hst
 intro w hst
 replace hst := hst.pull1
 obtain ⟨css597, hq598, hst⟩ := hst.own_open
 obtain ⟨t599, ht600, hm⟩ := bind_some hm
 refine wec call34 [v595, U6 a1.Commit, I6 (8:Int)] z z ?_
 refine (ref02_Num_ref (hst.rdrow0 hq598) hst.to0 ht600).mono ?_
 rintro _ w601 ⟨v604, rfl, hst⟩
 refine ⟨_, z, ?_⟩
 replace hst := hst.of1.pull1.own_close hq598
 refine ws_next (pend' := []) hst (by kernel_rfl) pk_nil ?_
 refine ws_e1 7 (by kernel_rfl) ?_
 refine nxe [] (by kernel_rfl) z z ?_
 clear hst
 intro w hst
 refine we_run (v := v604) (w' := w) z z ?_
 refine ws_next (pend' := []) hst (by kernel_rfl) pk_nil ?_
 refine ws_nil ?_
 intro w hst
 refine tn (wp_seq ?_)
 refine wp_region_St hst 10 [0, 1, 2, 3, 4, 5, 6, 7, 8, 9] [0, 0, 2, 7, 0, 16, 48, 112, 255, 511] [9] z (by kernel_rfl) (by kernel_rfl) Try.mixed (by kernel_rfl) ?_
 refine wsr (v604) 0 z z z (by kernel_rfl) (fun w hst => z) (wsr (Pt b539 7) 1 z z z (by kernel_rfl) (fun w hst => x_field z underlying30 z sizeOf4 z) (wsr (.bool a1.OK) 2 z z z (by kernel_rfl) (fun w hst => x_load z isAgg4 (hst.bc7 z)) (wsr (Pt b539 8) 4 z z z (by kernel_rfl) (fun w hst => x_field z underlying30 z sizeOf26 z) (wsr (r1_0) 5 z z z (by kernel_rfl) (fun w hst => x_load z isAgg26 (hst.bc7 z)) (wsr (.int .i64 ((a1.Entries).length : Int)) 6 z z z (by kernel_rfl) (fun w hst => x_len z underlying26 (rd_sliceV f1_0)) (wsr (.int .u64 (u64.wrap ((a1.Entries).length : Int))) 7 z z z (by kernel_rfl) (fun w hst => by kernel_rfl) ?_))))))
 refine ws_e1 3 (by kernel_rfl) ?_
 refine nxe [8, 9] (by kernel_rfl) z z ?_
 clear hst
 intro w hst
 replace hst := hst.pull1
 obtain ⟨css606, hq607, hst⟩ := hst.own_open
 obtain ⟨t608, ht609, hm⟩ := bind_some hm
 refine wec call60 [v604, .bool a1.OK] z z ?_
 refine (ref02_Flag_ref (hst.rdrow0 hq607) hst.to0 ht609).mono ?_
 rintro _ w610 ⟨v613, rfl, hst⟩
 refine ⟨_, z, ?_⟩
 replace hst := hst.of1.pull1.own_close hq607
 refine ws_next (pend' := [(7, U6 (u64.wrap ((a1.Entries).length : Int))), (6, I6 ((a1.Entries).length : Int)), (5, r1_0), (4, Pt b539 8)]) hst (by kernel_rfl) (pkr z z (fun w hst => by kernel_rfl) (pkr z z (fun w hst => x_len z underlying26 (rd_sliceV f1_0)) (pkr z z (fun w hst => x_load z isAgg26 (hst.bc8 z)) (pkr z z (fun w hst => x_field z underlying30 z sizeOf26 z) pk_nil)))) ?_
 refine ws_e1 8 (by kernel_rfl) ?_
 refine nxe [9] (by kernel_rfl) z z ?_
 clear hst
 intro w hst
 replace hst := hst.pull1
 obtain ⟨css615, hq616, hst⟩ := hst.own_open
 obtain ⟨t617, ht618, hm⟩ := bind_some hm
 refine wec call34 [v613, U6 (u64.wrap ((a1.Entries).length : Int)), I6 (4:Int)] z z ?_
 refine (ref02_Num_ref (hst.rdrow0 hq616) hst.to0 ht618).mono ?_
 rintro _ w619 ⟨v622, rfl, hst⟩
 refine ⟨_, z, ?_⟩
 replace hst := hst.of1.pull1.own_close hq616
 refine ws_next (pend' := []) hst (by kernel_rfl) pk_nil ?_
 refine ws_e1 9 (by kernel_rfl) ?_
 refine nxe [] (by kernel_rfl) z z ?_
 clear hst
 intro w hst
 refine we_run (v := v622) (w' := w) z z ?_
 refine ws_next (pend' := []) hst (by kernel_rfl) pk_nil ?_
 refine ws_nil ?_
 intro w hst
 refine tn ?_
 obtain ⟨y813, hm, hx814⟩ := bind_some hm
 refine wp_cut (fun a w => ∃ (z810 : (List Int)) (v809 : Value) (σ811 : Nat → Value), (ref13_Message_j0 a1) z810 = some r ∧ a = Fr 89 (upd (upd σ811 0 (v809)) 3 (Pt b539 0)) ∧ St w0 w I [ownS (tyInt .u8) v809 z810, cells b539 [U1 a1.Kind, I6 a1.From, I6 a1.To, U6 a1.Term, U6 a1.Index, U6 a1.LogTerm, U6 a1.Commit, .bool a1.OK, r1_0, U6 a1.S.Index, U6 a1.S.Term, U6 a1.S.Voters, r1_1]] R) ?_ ?_
 {
 refine wp_seq (wrl (wv (.int .i64 (0:Int)) z z z (wl_nil (tn (wp_block ?_)))))
 replace hst := hst.sub.pull1.sub.pull1.sub.pull1.sub.pull1.sub.pull1.sub.pull1.sub.pull1.sub
 obtain ⟨n745, hm⟩ := loopO_some hm
 refine wp_loop_n (fun n a w => ∃ (z740 : (List Int)) (z743 : Int) (v741 : Value) (σ744 : Nat → Value), loopN (ref13_Message_l1 a1) n (z740, z743) = some y813 ∧ a = Fr 89 (upd (upd (upd σ744 0 (v741)) 3 (Pt b539 0)) 5 (.int .i64 z743)) ∧ St w0 w I [ownS (tyInt .u8) v741 z740, cells b539 [U1 a1.Kind, I6 a1.From, I6 a1.To, U6 a1.Term, U6 a1.Index, U6 a1.LogTerm, U6 a1.Commit, .bool a1.OK, r1_0, U6 a1.S.Index, U6 a1.S.Term, U6 a1.S.Voters, r1_1]] R) n745 ⟨t617, (0:Int), v622, _, hm, (fu 0 v622 z (fu 3 (Pt b539 0) z (fu 5 (.int .i64 (0:Int)) z z))), hst⟩ ?_
 rintro n751 _ w746 ⟨z740, z743, v741, σ744, hm, rfl, hst⟩
 obtain ⟨n748, y749, rfl, hm, hx750⟩ := loopN_some hm
 dsimp only [ref13_Message_l1] at hm
 refine wp_seq (wp_seq (wrl (wv (.int .i64 z743) z z z (wv (Pt b539 8) z z (x_field z underlying30 z sizeOf26 z) (wv (r1_0) z z (x_load z isAgg26 (hst.bc1 z)) (wv (.int .i64 ((a1.Entries).length : Int)) z z (x_len z underlying26 (rd_sliceV f1_0)) (wv (.bool (decide (z743 < ((a1.Entries).length : Int)))) z z z (wl_nil (tn ?_)))))))))
 refine bsplit (decide (z743 < ((a1.Entries).length : Int))) (fun hc752 => ?_) (fun hc752 => ?_)
 {
 replace hm := bif_t hc752 hm
 refine wp_ift (cvb hc752) ?_
 refine wp_skip (tn (wp_seq (wp_block (wp_seq (wrl ?_)))))
 refine wv (Pt b539 8) z z (x_field z underlying30 z sizeOf26 z) (wv (r1_0) z z (x_load z isAgg26 (hst.bc1 z)) (wv (.int .i64 z743) z z z ?_))
 obtain ⟨x753, hx754, hm⟩ := bind_some hm
 obtain ⟨h755, h756, hi757⟩ := geto_some hx754
 refine wv (.pointer (some (eAddr r1_0 (z743.toNat * 4 + 0)))) z z (x_index z z underlying26 sizeOf84 (rd_sliceV f1_0) h755 h756) ?_
 obtain ⟨cs758, hr759, hc760⟩ := Rd.getF f1_0 hi757
 obtain ⟨v761, rfl, f762, -⟩ := hr759
 refine wv (.agg #[U6 x753.Index, U6 x753.Term, U1 x753.Kind, v761]) z z (x_loadN (cs := [U6 x753.Index, U6 x753.Term, U1 x753.Kind, v761]) z isAgg84 sizeOf84 (eCells (o := 0) (hc760 (HL.le.refl _) hst) z)) ?_
 obtain ⟨b765, w766, ew767, eb768, hst⟩ := hst.box [Zu, Zu, Zb, Zs] 84
 refine wl_run (v := Pt b765 0) (w' := w766) z z (x_al (by kernel_rfl) ew767 eb768) ?_
 obtain ⟨w770, hr771, hst⟩ := hst.bx [U6 x753.Index, U6 x753.Term, U1 x753.Kind, v761] sizeOf84 z (oC z (oC z (oC z (oC (one_of_sliceV (rd_sliceV f762)) oN)))) (by kernel_rfl)
 refine wl_unit z z (x_unit hr771) ?_
 refine wl_nil (tn (wp_seq ?_))
 refine wp_region_St hst 8 [0, 1, 2, 3, 4, 5, 6, 7] [0, 0, 2, 7, 0, 16, 63, 127] [7] z (by kernel_rfl) (by kernel_rfl) Try.mixed (by kernel_rfl) ?_
 refine wsr (v741) 0 z z z (by kernel_rfl) (fun w hst => z) (wsr (Pt b765 0) 1 z z z (by kernel_rfl) (fun w hst => x_field z underlying84 z sizeOf25 z) (wsr (.int .u64 x753.Index) 2 z z z (by kernel_rfl) (fun w hst => x_load z isAgg25 (hst.bc0 z)) (wsr (Pt b765 1) 4 z z z (by kernel_rfl) (fun w hst => x_field z underlying84 z sizeOf25 z) (wsr (.int .u64 x753.Term) 5 z z z (by kernel_rfl) (fun w hst => x_load z isAgg25 (hst.bc0 z)) ?_))))
 refine ws_e1 3 (by kernel_rfl) ?_
 refine nxe [6, 7] (by kernel_rfl) z z ?_
 clear hst
 intro w hst
 replace hst := hst.pull1
 obtain ⟨css772, hq773, hst⟩ := hst.own_open
 obtain ⟨t774, ht775, hm⟩ := bind_some hm
 refine wec call34 [v741, U6 x753.Index, I6 (8:Int)] z z ?_
 refine (ref02_Num_ref (hst.rdrow0 hq773) hst.to0 ht775).mono ?_
 rintro _ w776 ⟨v779, rfl, hst⟩
 refine ⟨_, z, ?_⟩
 replace hst := hst.of1.pull1.own_close hq773
 refine ws_next (pend' := [(5, U6 x753.Term), (4, Pt b765 1)]) hst (by kernel_rfl) (pkr z z (fun w hst => x_load z isAgg25 (hst.bc2 z)) (pkr z z (fun w hst => x_field z underlying84 z sizeOf25 z) pk_nil)) ?_
 refine ws_e1 6 (by kernel_rfl) ?_
 refine nxe [7] (by kernel_rfl) z z ?_
 clear hst
 intro w hst
 replace hst := hst.pull1
 obtain ⟨css781, hq782, hst⟩ := hst.own_open
 obtain ⟨t783, ht784, hm⟩ := bind_some hm
 refine wec call34 [v779, U6 x753.Term, I6 (8:Int)] z z ?_
 refine (ref02_Num_ref (hst.rdrow0 hq782) hst.to0 ht784).mono ?_
 rintro _ w785 ⟨v788, rfl, hst⟩
 refine ⟨_, z, ?_⟩
 replace hst := hst.of1.pull1.own_close hq782
 refine ws_next (pend' := []) hst (by kernel_rfl) pk_nil ?_
 refine ws_e1 7 (by kernel_rfl) ?_
 refine nxe [] (by kernel_rfl) z z ?_
 clear hst
 intro w hst
 refine we_run (v := v788) (w' := w) z z ?_
 refine ws_next (pend' := []) hst (by kernel_rfl) pk_nil ?_
 refine ws_nil ?_
 intro w hst
 refine tn ?_
 refine wp_region_St hst 9 [0, 1, 2, 3, 4, 5, 6, 7, 8] [0, 0, 2, 6, 15, 0, 32, 127, 255] [8] z (by kernel_rfl) (by kernel_rfl) Try.mixed (by kernel_rfl) ?_
 refine wsr (v788) 0 z z z (by kernel_rfl) (fun w hst => z) (wsr (Pt b765 2) 1 z z z (by kernel_rfl) (fun w hst => x_field z underlying84 z sizeOf5 z) (wsr (.int .u8 x753.Kind) 2 z z z (by kernel_rfl) (fun w hst => x_load z isAgg5 (hst.bc3 z)) (wsr (.int .u64 (u64.wrap x753.Kind)) 3 z z z (by kernel_rfl) (fun w hst => by kernel_rfl) (wsr (Pt b765 3) 5 z z z (by kernel_rfl) (fun w hst => x_field z underlying84 z sizeOf22 z) (wsr (v761) 6 z z z (by kernel_rfl) (fun w hst => x_load z isAgg22 (hst.bc3 z)) ?_)))))
 refine ws_e1 4 (by kernel_rfl) ?_
 refine nxe [7, 8] (by kernel_rfl) z z ?_
 clear hst
 intro w hst
 replace hst := hst.pull1
 obtain ⟨css790, hq791, hst⟩ := hst.own_open
 obtain ⟨t792, ht793, hm⟩ := bind_some hm
 refine wec call34 [v788, U6 (u64.wrap x753.Kind), I6 (1:Int)] z z ?_
 refine (ref02_Num_ref (hst.rdrow0 hq791) hst.to0 ht793).mono ?_
 rintro _ w794 ⟨v797, rfl, hst⟩
 refine ⟨_, z, ?_⟩
 replace hst := hst.of1.pull1.own_close hq791
 refine ws_next (pend' := [(6, v761), (5, Pt b765 3)]) hst (by kernel_rfl) (pkr z z (fun w hst => x_load z isAgg22 (hst.bc4 z)) (pkr z z (fun w hst => x_field z underlying84 z sizeOf22 z) pk_nil)) ?_
 refine ws_e1 7 (by kernel_rfl) ?_
 refine nxe [8] (by kernel_rfl) z z ?_
 clear hst
 intro w hst
 replace hst := hst.pull1
 obtain ⟨css799, hq800, hst⟩ := hst.own_open
 obtain ⟨t801, ht802, hm⟩ := bind_some hm
 refine wec call38 [v797, v761] z z ?_
 refine (ref02_Bytes_ref (hst.rdrow0 hq800) (f762.mono (rd_weak _)) hst.to0 ht802).mono ?_
 rintro _ w803 ⟨v806, rfl, hst⟩
 refine ⟨_, z, ?_⟩
 replace hst := hst.of1.pull1.own_close hq800
 refine ws_next (pend' := []) hst (by kernel_rfl) pk_nil ?_
 refine ws_e1 8 (by kernel_rfl) ?_
 refine nxe [] (by kernel_rfl) z z ?_
 clear hst
 intro w hst
 refine we_run (v := v806) (w' := w) z z ?_
 refine ws_next (pend' := []) hst (by kernel_rfl) pk_nil ?_
 refine ws_nil ?_
 intro w hst
 refine blk_n (tn (wrl ?_))
 refine wv (.int .i64 z743) z z z (wv (.int .i64 (i64.wrap (z743 + (1:Int)))) z z z (wv (.int .i64 (i64.wrap (z743 + (1:Int)))) z z z (wl_nil (tn ?_))))
 replace hst := hst.pull6.pull2.keep2
 obtain rfl := some_inj hm
 exact ⟨_, Nat.lt_succ_self _, t801, (i64.wrap (z743 + (1:Int))), v806, _, hx750, (fu 0 v806 z (fu 3 (Pt b539 0) z (fu 5 (.int .i64 (i64.wrap (z743 + (1:Int)))) z z))), hst⟩
}
 {
 replace hm := bif_f hc752 hm
 refine wp_iff (cvb hc752) ?_
 refine wp_exit (then_x (then_x ?_))
 replace hm := inr_up hm hx750
 refine blk_x (tn ?_)
 replace hst := hst.pull1.pull1.keep2
 obtain rfl := some_inj hm
 exact ⟨z740, v741, _, hx814, (fu 0 v741 z (fu 3 (Pt b539 0) z z)), hst⟩
}
}
 {
 clear hst
 rintro _ w815 ⟨z810, v809, σ811, hm, rfl, hst⟩
 dsimp only [ref13_Message_j0] at hm
 refine wp_seq ?_
 refine wp_region_St hst 10 [0, 1, 2, 3, 4, 5, 6, 7, 8, 9] [0, 0, 2, 6, 15, 0, 32, 96, 255, 511] [9] z (by kernel_rfl) (by kernel_rfl) Try.mixed (by kernel_rfl) ?_
 refine wsr (v809) 0 z z z (by kernel_rfl) (fun w hst => z) (wsr (Pt b539 9) 1 z z z (by kernel_rfl) (fun w hst => x_field z underlying30 z sizeOf28 z) (wsr (Pt b539 9) 2 z z z (by kernel_rfl) (fun w hst => x_field z underlying28 z sizeOf25 z) (wsr (.int .u64 a1.S.Index) 3 z z z (by kernel_rfl) (fun w hst => x_load z isAgg25 (hst.bc1 z)) (wsr (Pt b539 9) 5 z z z (by kernel_rfl) (fun w hst => x_field z underlying30 z sizeOf28 z) (wsr (Pt b539 10) 6 z z z (by kernel_rfl) (fun w hst => x_field z underlying28 z sizeOf25 z) (wsr (.int .u64 a1.S.Term) 7 z z z (by kernel_rfl) (fun w hst => x_load z isAgg25 (hst.bc1 z)) ?_))))))
 refine ws_e1 4 (by kernel_rfl) ?_
 refine nxe [8, 9] (by kernel_rfl) z z ?_
 clear hst
 intro w hst
 obtain ⟨css816, hq817, hst⟩ := hst.own_open
 obtain ⟨t818, ht819, hm⟩ := bind_some hm
 refine wec call34 [v809, U6 a1.S.Index, I6 (8:Int)] z z ?_
 refine (ref02_Num_ref (hst.rdrow0 hq817) hst.to0 ht819).mono ?_
 rintro _ w820 ⟨v823, rfl, hst⟩
 refine ⟨_, z, ?_⟩
 replace hst := hst.of1.pull1.own_close hq817
 refine ws_next (pend' := [(7, U6 a1.S.Term), (6, Pt b539 10), (5, Pt b539 9)]) hst (by kernel_rfl) (pkr z z (fun w hst => x_load z isAgg25 (hst.bc2 z)) (pkr z z (fun w hst => x_field z underlying28 z sizeOf25 z) (pkr z z (fun w hst => x_field z underlying30 z sizeOf28 z) pk_nil))) ?_
 refine ws_e1 8 (by kernel_rfl) ?_
 refine nxe [9] (by kernel_rfl) z z ?_
 clear hst
 intro w hst
 replace hst := hst.pull1
 obtain ⟨css825, hq826, hst⟩ := hst.own_open
 obtain ⟨t827, ht828, hm⟩ := bind_some hm
 refine wec call34 [v823, U6 a1.S.Term, I6 (8:Int)] z z ?_
 refine (ref02_Num_ref (hst.rdrow0 hq826) hst.to0 ht828).mono ?_
 rintro _ w829 ⟨v832, rfl, hst⟩
 refine ⟨_, z, ?_⟩
 replace hst := hst.of1.pull1.own_close hq826
 refine ws_next (pend' := []) hst (by kernel_rfl) pk_nil ?_
 refine ws_e1 9 (by kernel_rfl) ?_
 refine nxe [] (by kernel_rfl) z z ?_
 clear hst
 intro w hst
 refine we_run (v := v832) (w' := w) z z ?_
 refine ws_next (pend' := []) hst (by kernel_rfl) pk_nil ?_
 refine ws_nil ?_
 intro w hst
 refine tn (wp_seq ?_)
 refine wp_region_St hst 10 [0, 1, 2, 3, 4, 5, 6, 7, 8, 9] [0, 0, 2, 6, 15, 0, 32, 96, 255, 511] [] z (by kernel_rfl) (by kernel_rfl) Try.mixed (by kernel_rfl) ?_
 refine wsr (v832) 0 z z z (by kernel_rfl) (fun w hst => z) (wsr (Pt b539 9) 1 z z z (by kernel_rfl) (fun w hst => x_field z underlying30 z sizeOf28 z) (wsr (Pt b539 11) 2 z z z (by kernel_rfl) (fun w hst => x_field z underlying28 z sizeOf25 z) (wsr (.int .u64 a1.S.Voters) 3 z z z (by kernel_rfl) (fun w hst => x_load z isAgg25 (hst.bc3 z)) (wsr (Pt b539 9) 5 z z z (by kernel_rfl) (fun w hst => x_field z underlying30 z sizeOf28 z) (wsr (Pt b539 12) 6 z z z (by kernel_rfl) (fun w hst => x_field z underlying28 z sizeOf22 z) (wsr (r1_1) 7 z z z (by kernel_rfl) (fun w hst => x_load z isAgg22 (hst.bc3 z)) ?_))))))
 refine ws_e1 4 (by kernel_rfl) ?_
 refine nxe [8, 9] (by kernel_rfl) z z ?_
 clear hst
 intro w hst
 replace hst := hst.pull1
 obtain ⟨css834, hq835, hst⟩ := hst.own_open
 obtain ⟨t836, ht837, hm⟩ := bind_some hm
 refine wec call34 [v832, U6 a1.S.Voters, I6 (8:Int)] z z ?_
 refine (ref02_Num_ref (hst.rdrow0 hq835) hst.to0 ht837).mono ?_
 rintro _ w838 ⟨v841, rfl, hst⟩
 refine ⟨_, z, ?_⟩
 replace hst := hst.of1.pull1.own_close hq835
 refine ws_next (pend' := [(7, r1_1), (6, Pt b539 12), (5, Pt b539 9)]) hst (by kernel_rfl) (pkr z z (fun w hst => x_load z isAgg22 (hst.bc4 z)) (pkr z z (fun w hst => x_field z underlying28 z sizeOf22 z) (pkr z z (fun w hst => x_field z underlying30 z sizeOf28 z) pk_nil))) ?_
 refine ws_e1 8 (by kernel_rfl) ?_
 refine nxe [9] (by kernel_rfl) z z ?_
 clear hst
 intro w hst
 replace hst := hst.pull1
 obtain ⟨css843, hq844, hst⟩ := hst.own_open
 obtain ⟨t845, ht846, hm⟩ := bind_some hm
 refine wec call38 [v841, r1_1] z z ?_
 refine (ref02_Bytes_ref (hst.rdrow0 hq844) (f1_1.mono (rd_weak _)) hst.to0 ht846).mono ?_
 rintro _ w847 ⟨v850, rfl, hst⟩
 refine ⟨_, z, ?_⟩
 replace hst := hst.of1.pull1.own_close hq844
 refine ws_next (pend' := []) hst (by kernel_rfl) pk_nil ?_
 refine wsr (v850) 9 z z z (by kernel_rfl) (fun w hst => z) ?_
 refine ws_nil ?_
 intro w hst
 refine tn (wp_ret ?_)
 obtain rfl := some_inj hm
 refine post_ret (vs := [v850]) results35 (rvs_cons (rv_tmp z) rvs_nil) ?_
 replace hst := hst.pull1
 exact ⟨v850, z, hst.keep1⟩
}
}

theorem ref12_ID_ref {w0 w : World} {I : HL} {R : SP} {a0 : (List Int)} {r0_0 : Value} {a1 : api_ID} (f0_0 : Rd (tyInt .u8) R I r0_0 a0) (hst : St w0 w I [] R) {r : ((List Int))} (hm : ref12_ID a0 a1 = some r) :
  Calls prog 40 #[r0_0, .agg #[U6 a1.Session, U6 a1.Seq]] w fun e w' => ∃ (q0_0 : Value), e = .returned (q0_0) ∧ St w0 w' I [ownS (tyInt .u8) q0_0 r] R := by {
 unfold ref12_ID at hm
 refine calls_start (args := [r0_0, .agg #[U6 a1.Session, U6 a1.Seq]]) func40 z ntmps40 (Nat.le_of_ble_eq_true z) ?_
 refine wp_seq (wrl ?_)
 obtain ⟨b272, w273, ew274, eb275, hst⟩ := hst.box [U6 a1.Session, U6 a1.Seq] 32
 refine wl_run (v := Pt b272 0) (w' := w273) z z (x_al (by kernel_rfl) ew274 eb275) ?_
 refine wv ((.slice none 0 0)) z z z (wl_nil (tn (wp_seq ?_)))
 refine wp_region_St hst 8 [0, 1, 2, 3, 4, 5, 6, 7] [0, 0, 2, 7, 0, 16, 63, 127] [] z (by kernel_rfl) (by kernel_rfl) Try.mixed (by kernel_rfl) ?_
 refine wsr (r0_0) 0 z z z (by kernel_rfl) (fun w hst => z) (wsr (Pt b272 0) 1 z z z (by kernel_rfl) (fun w hst => x_field z underlying32 z sizeOf25 z) (wsr (.int .u64 a1.Session) 2 z z z (by kernel_rfl) (fun w hst => x_load z isAgg25 (hst.bc0 z)) (wsr (Pt b272 1) 4 z z z (by kernel_rfl) (fun w hst => x_field z underlying32 z sizeOf25 z) (wsr (.int .u64 a1.Seq) 5 z z z (by kernel_rfl) (fun w hst => x_load z isAgg25 (hst.bc0 z)) ?_))))
 refine ws_e1 3 (by kernel_rfl) ?_
 refine nxe [6, 7] (by kernel_rfl) z z ?_
 clear hst
 intro w hst
 obtain ⟨t278, ht279, hm⟩ := bind_some hm
 refine wec call34 [r0_0, U6 a1.Session, I6 (8:Int)] z z ?_
 refine (ref02_Num_ref (f0_0.mono (rd_weak _)) hst.to0 ht279).mono ?_
 rintro _ w280 ⟨v283, rfl, hst⟩
 refine ⟨_, z, ?_⟩
 replace hst := hst.of1
 refine ws_next (pend' := [(5, U6 a1.Seq), (4, Pt b272 1)]) hst (by kernel_rfl) (pkr z z (fun w hst => x_load z isAgg25 (hst.bc1 z)) (pkr z z (fun w hst => x_field z underlying32 z sizeOf25 z) pk_nil)) ?_
 refine ws_e1 6 (by kernel_rfl) ?_
 refine nxe [7] (by kernel_rfl) z z ?_
 clear hst
 intro w hst
 obtain ⟨css285, hq286, hst⟩ := hst.own_open
 obtain ⟨t287, ht288, hm⟩ := bind_some hm
 refine wec call34 [v283, U6 a1.Seq, I6 (8:Int)] z z ?_
 refine (ref02_Num_ref (hst.rdrow0 hq286) hst.to0 ht288).mono ?_
 rintro _ w289 ⟨v292, rfl, hst⟩
 refine ⟨_, z, ?_⟩
 replace hst := hst.of1.pull1.own_close hq286
 refine ws_next (pend' := []) hst (by kernel_rfl) pk_nil ?_
 refine wsr (v292) 7 z z z (by kernel_rfl) (fun w hst => z) ?_
 refine ws_nil ?_
 intro w hst
 refine tn (wp_ret ?_)
 obtain rfl := some_inj hm
 refine post_ret (vs := [v292]) results40 (rvs_cons (rv_tmp z) rvs_nil) ?_
 replace hst := hst.pull1
 exact ⟨v292, z, hst.keep1⟩
}

theorem ref01_Rank_ref {w0 w : World} {I : HL} {R : SP} {a0 : Nat}  (hst : St w0 w I [] R) {r : (Int)} (hm : ref01_Rank a0 = some r) :
  Calls prog 61 #[F6 a0] w fun e w' => e = .returned (.int .u64 r) ∧ St w0 w' I [] R := by {
 unfold ref01_Rank at hm
 refine calls_start (args := [F6 a0]) func61 z ntmps61 (Nat.le_of_ble_eq_true z) ?_
 refine wp_seq (wrl (wv (.int .u64 (0:Int)) z z z (wl_nil (tn (wp_seq (wrl (wv (.float .f64 a0) z z z (wv (.int .u64 (Int.ofNat a0)) z z (by kernel_rfl) (wv (.int .u64 (Int.ofNat a0)) z z z (wl_nil (tn (wp_seq (wp_seq (wrl (wv (.float .f64 a0) z z z (wv (.float .f64 a0) z z z (wv (.bool (fNe a0 a0)) z z z (wl_nil (tn ?_)))))))))))))))))))
 refine bsplit (fNe a0 a0) (fun hc281 => ?_) (fun hc281 => ?_)
 {
 replace hm := bif_t hc281 hm
 refine wp_ift (cvb hc281) ?_
 refine wp_seq (wrl (wv (.int .u64 (18446744073709551615:Int)) z z z (wl_nil (tn (wp_ret (then_r ?_))))))
 obtain rfl := some_inj hm
 refine post_ret (vs := [U6 (18446744073709551615:Int)]) results61 (rvs_cons (rv_tmp z) rvs_nil) ?_
 exact ⟨z, hst.keep0⟩
}
 {
 replace hm := bif_f hc281 hm
 refine wp_iff (cvb hc281) ?_
 refine wp_skip (tn (wp_seq (wp_seq (wrl ?_))))
 refine wv (.int .u64 (Int.ofNat a0)) z z z (wv (.bool (decide ((Int.ofNat a0) ≥ (9223372036854775808:Int)))) z z z (wl_nil (tn ?_)))
 refine bsplit (decide ((Int.ofNat a0) ≥ (9223372036854775808:Int))) (fun hc282 => ?_) (fun hc282 => ?_)
 {
 replace hm := bif_t hc282 hm
 refine wp_ift (cvb hc282) ?_
 refine wp_seq (wrl (wv (.int .u64 (Int.ofNat a0)) z z z (wv (.int .u64 (u64.wrap ((18446744073709551615:Int) - (Int.ofNat a0)))) z z z (wv (.int .u64 (u64.wrap ((18446744073709551615:Int) - (Int.ofNat a0)))) z z z (wl_nil (tn (wp_ret (then_r ?_))))))))
 obtain rfl := some_inj hm
 refine post_ret (vs := [U6 (u64.wrap ((18446744073709551615:Int) - (Int.ofNat a0)))]) results61 (rvs_cons (rv_tmp z) rvs_nil) ?_
 exact ⟨z, hst.keep0⟩
}
 {
 replace hm := bif_f hc282 hm
 refine wp_iff (cvb hc282) ?_
 refine wp_skip (tn (wp_seq (wrl ?_)))
 refine wv (.int .u64 (Int.ofNat a0)) z z z (wv (.int .u64 (u64.wrap ((Int.ofNat a0) + (9223372036854775808:Int)))) z z z (wv (.int .u64 (u64.wrap ((Int.ofNat a0) + (9223372036854775808:Int)))) z z z (wl_nil (tn (wp_ret ?_)))))
 obtain rfl := some_inj hm
 refine post_ret (vs := [U6 (u64.wrap ((Int.ofNat a0) + (9223372036854775808:Int)))]) results61 (rvs_cons (rv_tmp z) rvs_nil) ?_
 exact ⟨z, hst.keep0⟩
}
}
}

theorem ref12_Hold_ref {w0 w : World} {I : HL} {R : SP} {a0 : (List Int)} {r0_0 : Value} {a1 : api_Hold} {r1_0 : Value} {r1_1 : Value} {r1_2 : Value} {r1_3 : Value} (f0_0 : Rd (tyInt .u8) R I r0_0 a0) (f1_0 : Rd tyF64 R I r1_0 a1.Gets) (f1_1 : Rd tyF2 R I r1_1 a1.Scans) (f1_2 : Rd tyF64 R I r1_2 a1.Puts) (f1_3 : Rd (tyInt .u8) R I r1_3 a1.Data) (hst : St w0 w I [] R) {r : ((List Int))} (hm : ref12_Hold a0 a1 = some r) :
  Calls prog 36 #[r0_0, .agg #[U6 a1.ID.Session, U6 a1.ID.Seq, U6 a1.Epoch, r1_0, r1_1, r1_2, r1_3]] w fun e w' => ∃ (q0_0 : Value), e = .returned (q0_0) ∧ St w0 w' I [ownS (tyInt .u8) q0_0 r] R := by {
 unfold ref12_Hold at hm
 refine calls_start (args := [r0_0, .agg #[U6 a1.ID.Session, U6 a1.ID.Seq, U6 a1.Epoch, r1_0, r1_1, r1_2, r1_3]]) func36 z ntmps36 (Nat.le_of_ble_eq_true z) ?_
 refine wp_seq (wrl ?_)
 obtain ⟨b599, w600, ew601, eb602, hst⟩ := hst.box [U6 a1.ID.Session, U6 a1.ID.Seq, U6 a1.Epoch, r1_0, r1_1, r1_2, r1_3] 36
 refine wl_run (v := Pt b599 0) (w' := w600) z z (x_al (by kernel_rfl) ew601 eb602) ?_
 refine wv ((.slice none 0 0)) z z z (wl_nil (tn (wp_seq (wrl (wv (r0_0) z z z (wv (Pt b599 0) z z (x_field z underlying36 z sizeOf32 z) (wv (.agg #[U6 a1.ID.Session, U6 a1.ID.Seq]) z z (x_loadN (cs := [U6 a1.ID.Session, U6 a1.ID.Seq]) z isAgg32 sizeOf32 (hst.bcs0 0 z)) ?_)))))))
 obtain ⟨t605, ht606, hm⟩ := bind_some hm
 refine wc call40 [r0_0, .agg #[U6 a1.ID.Session, U6 a1.ID.Seq]] z z z ?_
 refine (ref12_ID_ref (f0_0.mono (rd_weak _)) hst.to0 ht606).mono ?_
 rintro _ w607 ⟨v610, rfl, hst⟩
 refine ⟨_, z, ?_⟩
 replace hst := hst.of1
 refine wv (v610) z z z (wl_nil (tn (wp_seq (wrl (wv (v610) z z z (wv (Pt b599 2) z z (x_field z underlying36 z sizeOf25 z) (wv (.int .u64 a1.Epoch) z z (x_load z isAgg25 (hst.bc1 z)) ?_)))))))
 obtain ⟨css612, hq613, hst⟩ := hst.own_open
 obtain ⟨t614, ht615, hm⟩ := bind_some hm
 refine wc call34 [v610, U6 a1.Epoch, I6 (8:Int)] z z z ?_
 refine (ref02_Num_ref (hst.rdrow0 hq613) hst.to0 ht615).mono ?_
 rintro _ w616 ⟨v619, rfl, hst⟩
 refine ⟨_, z, ?_⟩
 replace hst := hst.of1.pull1.own_close hq613
 refine wv (v619) z z z (wl_nil (tn (wp_seq (wrl (wv (v619) z z z (wv (Pt b599 3) z z (x_field z underlying36 z sizeOf33 z) (wv (r1_0) z z (x_load z isAgg33 (hst.bc2 z)) (wv (.int .i64 ((a1.Gets).length : Int)) z z (x_len z underlying33 (rd_sliceV f1_0)) (wv (.int .u64 (u64.wrap ((a1.Gets).length : Int))) z z (by kernel_rfl) ?_)))))))))
 replace hst := hst.pull1
 obtain ⟨css621, hq622, hst⟩ := hst.own_open
 obtain ⟨t623, ht624, hm⟩ := bind_some hm
 refine wc call34 [v619, U6 (u64.wrap ((a1.Gets).length : Int)), I6 (4:Int)] z z z ?_
 refine (ref02_Num_ref (hst.rdrow0 hq622) hst.to0 ht624).mono ?_
 rintro _ w625 ⟨v628, rfl, hst⟩
 refine ⟨_, z, ?_⟩
 replace hst := hst.of1.pull1.own_close hq622
 refine wv (v628) z z z (wl_nil (tn ?_))
 obtain ⟨y711, hm, hx712⟩ := bind_some hm
 refine wp_cut (fun a w => ∃ (z708 : (List Int)) (v707 : Value) (σ709 : Nat → Value), (ref12_Hold_j0 a1) z708 = some r ∧ a = Fr 92 (upd (upd σ709 0 (v707)) 3 (Pt b599 0)) ∧ St w0 w I [ownS (tyInt .u8) v707 z708, cells b599 [U6 a1.ID.Session, U6 a1.ID.Seq, U6 a1.Epoch, r1_0, r1_1, r1_2, r1_3]] R) ?_ ?_
 {
 refine wp_seq (wrl (wv (.int .i64 (0:Int)) z z z (wl_nil (tn (wp_block ?_)))))
 replace hst := hst.sub.pull1.sub
 obtain ⟨n679, hm⟩ := loopO_some hm
 refine wp_loop_n (fun n a w => ∃ (z674 : (List Int)) (z677 : Int) (v675 : Value) (σ678 : Nat → Value), loopN (ref12_Hold_l1 a1) n (z674, z677) = some y711 ∧ a = Fr 92 (upd (upd (upd σ678 0 (v675)) 3 (Pt b599 0)) 5 (.int .i64 z677)) ∧ St w0 w I [ownS (tyInt .u8) v675 z674, cells b599 [U6 a1.ID.Session, U6 a1.ID.Seq, U6 a1.Epoch, r1_0, r1_1, r1_2, r1_3]] R) n679 ⟨t623, (0:Int), v628, _, hm, (fu 0 v628 z (fu 3 (Pt b599 0) z (fu 5 (.int .i64 (0:Int)) z z))), hst⟩ ?_
 rintro n685 _ w680 ⟨z674, z677, v675, σ678, hm, rfl, hst⟩
 obtain ⟨n682, y683, rfl, hm, hx684⟩ := loopN_some hm
 dsimp only [ref12_Hold_l1] at hm
 refine wp_seq (wp_seq (wrl (wv (.int .i64 z677) z z z (wv (Pt b599 3) z z (x_field z underlying36 z sizeOf33 z) (wv (r1_0) z z (x_load z isAgg33 (hst.bc1 z)) (wv (.int .i64 ((a1.Gets).length : Int)) z z (x_len z underlying33 (rd_sliceV f1_0)) (wv (.bool (decide (z677 < ((a1.Gets).length : Int)))) z z z (wl_nil (tn ?_)))))))))
 refine bsplit (decide (z677 < ((a1.Gets).length : Int))) (fun hc686 => ?_) (fun hc686 => ?_)
 {
 replace hm := bif_t hc686 hm
 refine wp_ift (cvb hc686) ?_
 refine wp_skip (tn (wp_seq (wp_block (wrl ?_))))
 refine wv (v675) z z z (wv (Pt b599 3) z z (x_field z underlying36 z sizeOf33 z) (wv (r1_0) z z (x_load z isAgg33 (hst.bc1 z)) (wv (.int .i64 z677) z z z ?_)))
 obtain ⟨x687, hx688, hm⟩ := bind_some hm
 obtain ⟨h689, h690, hi691⟩ := geto_some hx688
 refine wv (.pointer (some (eAddr r1_0 (z677.toNat * 1 + 0)))) z z (x_index z z underlying33 sizeOf44 (rd_sliceV f1_0) h689 h690) (wv (.float .f64 x687) z z (x_load z isAgg44 (rd_load f1_0 (HL.le.refl _) hst hi691 (by rintro _ rfl; rfl))) ?_)
 obtain ⟨t692, ht693, hm⟩ := bind_some hm
 refine wc call61 [F6 x687] z z z ?_
 refine (ref01_Rank_ref hst.to0 ht693).mono ?_
 rintro _ w694 ⟨rfl, hst⟩
 refine ⟨_, z, ?_⟩
 replace hst := hst.of0
 obtain ⟨css697, hq698, hst⟩ := hst.own_open
 obtain ⟨t699, ht700, hm⟩ := bind_some hm
 refine wc call34 [v675, U6 t692, I6 (8:Int)] z z z ?_
 refine (ref02_Num_ref (hst.rdrow0 hq698) hst.to0 ht700).mono ?_
 rintro _ w701 ⟨v704, rfl, hst⟩
 refine ⟨_, z, ?_⟩
 replace hst := hst.of1.pull1.own_close hq698
 refine wv (v704) z z z (wl_nil (blk_n (tn (wrl (wv (.int .i64 z677) z z z (wv (.int .i64 (i64.wrap (z677 + (1:Int)))) z z z (wv (.int .i64 (i64.wrap (z677 + (1:Int)))) z z z (wl_nil (tn ?_)))))))))
 replace hst := hst.pull2.pull2.keep2
 obtain rfl := some_inj hm
 exact ⟨_, Nat.lt_succ_self _, t699, (i64.wrap (z677 + (1:Int))), v704, _, hx684, (fu 0 v704 z (fu 3 (Pt b599 0) z (fu 5 (.int .i64 (i64.wrap (z677 + (1:Int)))) z z))), hst⟩
}
 {
 replace hm := bif_f hc686 hm
 refine wp_iff (cvb hc686) ?_
 refine wp_exit (then_x (then_x ?_))
 replace hm := inr_up hm hx684
 refine blk_x (tn ?_)
 replace hst := hst.pull1.pull1.keep2
 obtain rfl := some_inj hm
 exact ⟨z674, v675, _, hx712, (fu 0 v675 z (fu 3 (Pt b599 0) z z)), hst⟩
}
}
 {
 clear hst
 rintro _ w713 ⟨z708, v707, σ709, hm, rfl, hst⟩
 dsimp only [ref12_Hold_j0] at hm
 refine wp_seq (wrl (wv (v707) z z z (wv (Pt b599 4) z z (x_field z underlying36 z sizeOf34 z) (wv (r1_1) z z (x_load z isAgg34 (hst.bc1 z)) (wv (.int .i64 ((a1.Scans).length : Int)) z z (x_len z underlying34 (rd_sliceV f1_1)) (wv (.int .u64 (u64.wrap ((a1.Scans).length : Int))) z z (by kernel_rfl) ?_))))))
 obtain ⟨css714, hq715, hst⟩ := hst.own_open
 obtain ⟨t716, ht717, hm⟩ := bind_some hm
 refine wc call34 [v707, U6 (u64.wrap ((a1.Scans).length : Int)), I6 (4:Int)] z z z ?_
 refine (ref02_Num_ref (hst.rdrow0 hq715) hst.to0 ht717).mono ?_
 rintro _ w718 ⟨v721, rfl, hst⟩
 refine ⟨_, z, ?_⟩
 replace hst := hst.of1.pull1.own_close hq715
 refine wv (v721) z z z (wl_nil (tn ?_))
 obtain ⟨y846, hm, hx847⟩ := bind_some hm
 refine wp_cut (fun a w => ∃ (z843 : (List Int)) (v842 : Value) (σ844 : Nat → Value), (ref12_Hold_j2 a1) z843 = some r ∧ a = Fr 92 (upd (upd σ844 0 (v842)) 3 (Pt b599 0)) ∧ St w0 w I [ownS (tyInt .u8) v842 z843, cells b599 [U6 a1.ID.Session, U6 a1.ID.Seq, U6 a1.Epoch, r1_0, r1_1, r1_2, r1_3]] R) ?_ ?_
 {
 refine wp_seq (wrl (wv (.int .i64 (0:Int)) z z z (wl_nil (tn (wp_block ?_)))))
 replace hst := hst.sub
 obtain ⟨n800, hm⟩ := loopO_some hm
 refine wp_loop_n (fun n a w => ∃ (z795 : (List Int)) (z798 : Int) (v796 : Value) (σ799 : Nat → Value), loopN (ref12_Hold_l3 a1) n (z795, z798) = some y846 ∧ a = Fr 92 (upd (upd (upd σ799 0 (v796)) 3 (Pt b599 0)) 6 (.int .i64 z798)) ∧ St w0 w I [ownS (tyInt .u8) v796 z795, cells b599 [U6 a1.ID.Session, U6 a1.ID.Seq, U6 a1.Epoch, r1_0, r1_1, r1_2, r1_3]] R) n800 ⟨t716, (0:Int), v721, _, hm, (fu 0 v721 z (fu 3 (Pt b599 0) z (fu 6 (.int .i64 (0:Int)) z z))), hst⟩ ?_
 rintro n806 _ w801 ⟨z795, z798, v796, σ799, hm, rfl, hst⟩
 obtain ⟨n803, y804, rfl, hm, hx805⟩ := loopN_some hm
 dsimp only [ref12_Hold_l3] at hm
 refine wp_seq (wp_seq (wrl (wv (.int .i64 z798) z z z (wv (Pt b599 4) z z (x_field z underlying36 z sizeOf34 z) (wv (r1_1) z z (x_load z isAgg34 (hst.bc1 z)) (wv (.int .i64 ((a1.Scans).length : Int)) z z (x_len z underlying34 (rd_sliceV f1_1)) (wv (.bool (decide (z798 < ((a1.Scans).length : Int)))) z z z (wl_nil (tn ?_)))))))))
 refine bsplit (decide (z798 < ((a1.Scans).length : Int))) (fun hc807 => ?_) (fun hc807 => ?_)
 {
 replace hm := bif_t hc807 hm
 refine wp_ift (cvb hc807) ?_
 refine wp_skip (tn (wp_seq (wp_block ?_)))
 refine wp_region_St hst 18 [0, 1, 2, 3, 4, 5, 6, 7, 8, 9, 10, 11, 12, 13, 14, 15, 16, 17] [0, 0, 2, 0, 14, 30, 62, 126, 255, 0, 512, 0, 3584, 7680, 15872, 32767, 65535, 131071] [17] z (by kernel_rfl) (by kernel_rfl) Try.mixed (by kernel_rfl) ?_
 refine wsr (v796) 0 z z z (by kernel_rfl) (fun w hst => z) (wsr (Pt b599 4) 1 z z z (by kernel_rfl) (fun w hst => x_field z underlying36 z sizeOf34 z) (wsr (r1_1) 2 z z z (by kernel_rfl) (fun w hst => x_load z isAgg34 (hst.bc1 z)) (wsr (.int .i64 z798) 3 z z z (by kernel_rfl) (fun w hst => z) ?_)))
 obtain ⟨x808, hx809, hm⟩ := bind_some hm
 obtain ⟨h810, h811, hi812⟩ := geto_some hx809
 refine wsr (.pointer (some (eAddr r1_1 (z798.toNat * 2 + 0)))) 4 z z z (by kernel_rfl) (fun w hst => x_index z z underlying34 sizeOf102 (rd_sliceV f1_1) h810 h811) (wsr (.pointer (some (eAddr r1_1 (z798.toNat * 2 + 0)))) 5 z z z (by kernel_rfl) (fun w hst => x_index_arr_e (i := (0:Int)) z z underlying102 sizeOf44 (by decide) (by decide) z) (wsr (.float .f64 x808.1) 6 z z z (by kernel_rfl) (fun w hst => x_load z isAgg44 (rd_load f1_1 (HL.le.refl _) hst hi812 (by rintro _ rfl; rfl))) (wsr (Pt b599 4) 9 z z z (by kernel_rfl) (fun w hst => x_field z underlying36 z sizeOf34 z) (wsr (r1_1) 10 z z z (by kernel_rfl) (fun w hst => x_load z isAgg34 (hst.bc1 z)) (wsr (.int .i64 z798) 11 z z z (by kernel_rfl) (fun w hst => z) (wsr (.pointer (some (eAddr r1_1 (z798.toNat * 2 + 0)))) 12 z z z (by kernel_rfl) (fun w hst => x_index z z underlying34 sizeOf102 (rd_sliceV f1_1) h810 h811) (wsr (.pointer (some (eAddr r1_1 (z798.toNat * 2 + 1)))) 13 z z z (by kernel_rfl) (fun w hst => x_index_arr_e (i := (1:Int)) z z underlying102 sizeOf44 (by decide) (by decide) z) (wsr (.float .f64 x808.2) 14 z z z (by kernel_rfl) (fun w hst => x_load z isAgg44 (rd_load f1_1 (HL.le.refl _) hst hi812 (by rintro _ rfl; rfl))) ?_))))))))
 refine ws_e1 7 (by kernel_rfl) ?_
 refine nxe [8, 15, 16, 17] (by kernel_rfl) z z ?_
 clear hst
 intro w hst
 obtain ⟨t813, ht814, hm⟩ := bind_some hm
 refine wec call61 [F6 x808.1] z z ?_
 refine (ref01_Rank_ref hst.to0 ht814).mono ?_
 rintro _ w815 ⟨rfl, hst⟩
 refine ⟨_, z, ?_⟩
 replace hst := hst.of0
 refine ws_next (pend' := [(14, F6 x808.2), (13, .pointer (some (eAddr r1_1 (z798.toNat * 2 + 1)))), (12, .pointer (some (eAddr r1_1 (z798.toNat * 2 + 0)))), (11, I6 z798), (10, r1_1), (9, Pt b599 4), (0, v796)]) hst (by kernel_rfl) (pkr z z (fun w hst => x_load z isAgg44 (rd_load f1_1 (HL.le.refl _) hst hi812 (by rintro _ rfl; rfl))) (pkr z z (fun w hst => x_index_arr_e (i := (1:Int)) z z underlying102 sizeOf44 (by decide) (by decide) z) (pkr z z (fun w hst => x_index z z underlying34 sizeOf102 (rd_sliceV f1_1) h810 h811) (pkr z z (fun w hst => z) (pkr z z (fun w hst => x_load z isAgg34 (hst.bc1 z)) (pkr z z (fun w hst => x_field z underlying36 z sizeOf34 z) (pkr z z (fun w hst => z) pk_nil))))))) ?_
 refine ws_e1 8 (by kernel_rfl) ?_
 refine nxe [15, 16, 17] (by kernel_rfl) z z ?_
 clear hst
 intro w hst
 obtain ⟨css818, hq819, hst⟩ := hst.own_open
 obtain ⟨t820, ht821, hm⟩ := bind_some hm
 refine wec call34 [v796, U6 t813, I6 (8:Int)] z z ?_
 refine (ref02_Num_ref (hst.rdrow0 hq819) hst.to0 ht821).mono ?_
 rintro _ w822 ⟨v825, rfl, hst⟩
 refine ⟨_, z, ?_⟩
 replace hst := hst.of1.pull1.own_close hq819
 refine ws_next (pend' := [(14, F6 x808.2), (13, .pointer (some (eAddr r1_1 (z798.toNat * 2 + 1)))), (12, .pointer (some (eAddr r1_1 (z798.toNat * 2 + 0)))), (11, I6 z798), (10, r1_1), (9, Pt b599 4)]) hst (by kernel_rfl) (pkr z z (fun w hst => x_load z isAgg44 (rd_load f1_1 (HL.le.refl _) hst hi812 (by rintro _ rfl; rfl))) (pkr z z (fun w hst => x_index_arr_e (i := (1:Int)) z z underlying102 sizeOf44 (by decide) (by decide) z) (pkr z z (fun w hst => x_index z z underlying34 sizeOf102 (rd_sliceV f1_1) h810 h811) (pkr z z (fun w hst => z) (pkr z z (fun w hst => x_load z isAgg34 (hst.bc2 z)) (pkr z z (fun w hst => x_field z underlying36 z sizeOf34 z) pk_nil)))))) ?_
 refine ws_e1 15 (by kernel_rfl) ?_
 refine nxe [16, 17] (by kernel_rfl) z z ?_
 clear hst
 intro w hst
 obtain ⟨t827, ht828, hm⟩ := bind_some hm
 refine wec call61 [F6 x808.2] z z ?_
 refine (ref01_Rank_ref hst.to0 ht828).mono ?_
 rintro _ w829 ⟨rfl, hst⟩
 refine ⟨_, z, ?_⟩
 replace hst := hst.of0
 refine ws_next (pend' := []) hst (by kernel_rfl) pk_nil ?_
 refine ws_e1 16 (by kernel_rfl) ?_
 refine nxe [17] (by kernel_rfl) z z ?_
 clear hst
 intro w hst
 replace hst := hst.pull1
 obtain ⟨css832, hq833, hst⟩ := hst.own_open
 obtain ⟨t834, ht835, hm⟩ := bind_some hm
 refine wec call34 [v825, U6 t827, I6 (8:Int)] z z ?_
 refine (ref02_Num_ref (hst.rdrow0 hq833) hst.to0 ht835).mono ?_
 rintro _ w836 ⟨v839, rfl, hst⟩
 refine ⟨_, z, ?_⟩
 replace hst := hst.of1.pull1.own_close hq833
 refine ws_next (pend' := []) hst (by kernel_rfl) pk_nil ?_
 refine ws_e1 17 (by kernel_rfl) ?_
 refine nxe [] (by kernel_rfl) z z ?_
 clear hst
 intro w hst
 refine we_run (v := v839) (w' := w) z z ?_
 refine ws_next (pend' := []) hst (by kernel_rfl) pk_nil ?_
 refine ws_nil ?_
 intro w hst
 refine blk_n (tn (wrl ?_))
 refine wv (.int .i64 z798) z z z (wv (.int .i64 (i64.wrap (z798 + (1:Int)))) z z z (wv (.int .i64 (i64.wrap (z798 + (1:Int)))) z z z (wl_nil (tn ?_))))
 replace hst := hst.pull3.pull2.keep2
 obtain rfl := some_inj hm
 exact ⟨_, Nat.lt_succ_self _, t834, (i64.wrap (z798 + (1:Int))), v839, _, hx805, (fu 0 v839 z (fu 3 (Pt b599 0) z (fu 6 (.int .i64 (i64.wrap (z798 + (1:Int)))) z z))), hst⟩
}
 {
 replace hm := bif_f hc807 hm
 refine wp_iff (cvb hc807) ?_
 refine wp_exit (then_x (then_x ?_))
 replace hm := inr_up hm hx805
 refine blk_x (tn ?_)
 replace hst := hst.pull1.pull1.keep2
 obtain rfl := some_inj hm
 exact ⟨z795, v796, _, hx847, (fu 0 v796 z (fu 3 (Pt b599 0) z z)), hst⟩
}
}
 {
 clear hst
 rintro _ w848 ⟨z843, v842, σ844, hm, rfl, hst⟩
 dsimp only [ref12_Hold_j2] at hm
 refine wp_seq (wrl (wv (v842) z z z (wv (Pt b599 5) z z (x_field z underlying36 z sizeOf33 z) (wv (r1_2) z z (x_load z isAgg33 (hst.bc1 z)) (wv (.int .i64 ((a1.Puts).length : Int)) z z (x_len z underlying33 (rd_sliceV f1_2)) (wv (.int .u64 (u64.wrap ((a1.Puts).length : Int))) z z (by kernel_rfl) ?_))))))
 obtain ⟨css849, hq850, hst⟩ := hst.own_open
 obtain ⟨t851, ht852, hm⟩ := bind_some hm
 refine wc call34 [v842, U6 (u64.wrap ((a1.Puts).length : Int)), I6 (4:Int)] z z z ?_
 refine (ref02_Num_ref (hst.rdrow0 hq850) hst.to0 ht852).mono ?_
 rintro _ w853 ⟨v856, rfl, hst⟩
 refine ⟨_, z, ?_⟩
 replace hst := hst.of1.pull1.own_close hq850
 refine wv (v856) z z z (wl_nil (tn ?_))
 obtain ⟨y939, hm, hx940⟩ := bind_some hm
 refine wp_cut (fun a w => ∃ (z936 : (List Int)) (v935 : Value) (σ937 : Nat → Value), (ref12_Hold_j4 a1) z936 = some r ∧ a = Fr 92 (upd (upd σ937 0 (v935)) 3 (Pt b599 0)) ∧ St w0 w I [ownS (tyInt .u8) v935 z936, cells b599 [U6 a1.ID.Session, U6 a1.ID.Seq, U6 a1.Epoch, r1_0, r1_1, r1_2, r1_3]] R) ?_ ?_
 {
 refine wp_seq (wrl (wv (.int .i64 (0:Int)) z z z (wl_nil (tn (wp_block ?_)))))
 replace hst := hst.sub
 obtain ⟨n907, hm⟩ := loopO_some hm
 refine wp_loop_n (fun n a w => ∃ (z902 : (List Int)) (z905 : Int) (v903 : Value) (σ906 : Nat → Value), loopN (ref12_Hold_l5 a1) n (z902, z905) = some y939 ∧ a = Fr 92 (upd (upd (upd σ906 0 (v903)) 3 (Pt b599 0)) 7 (.int .i64 z905)) ∧ St w0 w I [ownS (tyInt .u8) v903 z902, cells b599 [U6 a1.ID.Session, U6 a1.ID.Seq, U6 a1.Epoch, r1_0, r1_1, r1_2, r1_3]] R) n907 ⟨t851, (0:Int), v856, _, hm, (fu 0 v856 z (fu 3 (Pt b599 0) z (fu 7 (.int .i64 (0:Int)) z z))), hst⟩ ?_
 rintro n913 _ w908 ⟨z902, z905, v903, σ906, hm, rfl, hst⟩
 obtain ⟨n910, y911, rfl, hm, hx912⟩ := loopN_some hm
 dsimp only [ref12_Hold_l5] at hm
 refine wp_seq (wp_seq (wrl (wv (.int .i64 z905) z z z (wv (Pt b599 5) z z (x_field z underlying36 z sizeOf33 z) (wv (r1_2) z z (x_load z isAgg33 (hst.bc1 z)) (wv (.int .i64 ((a1.Puts).length : Int)) z z (x_len z underlying33 (rd_sliceV f1_2)) (wv (.bool (decide (z905 < ((a1.Puts).length : Int)))) z z z (wl_nil (tn ?_)))))))))
 refine bsplit (decide (z905 < ((a1.Puts).length : Int))) (fun hc914 => ?_) (fun hc914 => ?_)
 {
 replace hm := bif_t hc914 hm
 refine wp_ift (cvb hc914) ?_
 refine wp_skip (tn (wp_seq (wp_block (wrl ?_))))
 refine wv (v903) z z z (wv (Pt b599 5) z z (x_field z underlying36 z sizeOf33 z) (wv (r1_2) z z (x_load z isAgg33 (hst.bc1 z)) (wv (.int .i64 z905) z z z ?_)))
 obtain ⟨x915, hx916, hm⟩ := bind_some hm
 obtain ⟨h917, h918, hi919⟩ := geto_some hx916
 refine wv (.pointer (some (eAddr r1_2 (z905.toNat * 1 + 0)))) z z (x_index z z underlying33 sizeOf44 (rd_sliceV f1_2) h917 h918) (wv (.float .f64 x915) z z (x_load z isAgg44 (rd_load f1_2 (HL.le.refl _) hst hi919 (by rintro _ rfl; rfl))) ?_)
 obtain ⟨t920, ht921, hm⟩ := bind_some hm
 refine wc call61 [F6 x915] z z z ?_
 refine (ref01_Rank_ref hst.to0 ht921).mono ?_
 rintro _ w922 ⟨rfl, hst⟩
 refine ⟨_, z, ?_⟩
 replace hst := hst.of0
 obtain ⟨css925, hq926, hst⟩ := hst.own_open
 obtain ⟨t927, ht928, hm⟩ := bind_some hm
 refine wc call34 [v903, U6 t920, I6 (8:Int)] z z z ?_
 refine (ref02_Num_ref (hst.rdrow0 hq926) hst.to0 ht928).mono ?_
 rintro _ w929 ⟨v932, rfl, hst⟩
 refine ⟨_, z, ?_⟩
 replace hst := hst.of1.pull1.own_close hq926
 refine wv (v932) z z z (wl_nil (blk_n (tn (wrl (wv (.int .i64 z905) z z z (wv (.int .i64 (i64.wrap (z905 + (1:Int)))) z z z (wv (.int .i64 (i64.wrap (z905 + (1:Int)))) z z z (wl_nil (tn ?_)))))))))
 replace hst := hst.pull2.pull2.keep2
 obtain rfl := some_inj hm
 exact ⟨_, Nat.lt_succ_self _, t927, (i64.wrap (z905 + (1:Int))), v932, _, hx912, (fu 0 v932 z (fu 3 (Pt b599 0) z (fu 7 (.int .i64 (i64.wrap (z905 + (1:Int)))) z z))), hst⟩
}
 {
 replace hm := bif_f hc914 hm
 refine wp_iff (cvb hc914) ?_
 refine wp_exit (then_x (then_x ?_))
 replace hm := inr_up hm hx912
 refine blk_x (tn ?_)
 replace hst := hst.pull1.pull1.keep2
 obtain rfl := some_inj hm
 exact ⟨z902, v903, _, hx940, (fu 0 v903 z (fu 3 (Pt b599 0) z z)), hst⟩
}
}
 {
 clear hst
 rintro _ w941 ⟨z936, v935, σ937, hm, rfl, hst⟩
 dsimp only [ref12_Hold_j4] at hm
 refine wp_seq (wrl (wv (v935) z z z (wv (Pt b599 6) z z (x_field z underlying36 z sizeOf22 z) (wv (r1_3) z z (x_load z isAgg22 (hst.bc1 z)) ?_))))
 obtain ⟨css942, hq943, hst⟩ := hst.own_open
 obtain ⟨t944, ht945, hm⟩ := bind_some hm
 refine wc call38 [v935, r1_3] z z z ?_
 refine (ref02_Bytes_ref (hst.rdrow0 hq943) (f1_3.mono (rd_weak _)) hst.to0 ht945).mono ?_
 rintro _ w946 ⟨v949, rfl, hst⟩
 refine ⟨_, z, ?_⟩
 replace hst := hst.of1.pull1.own_close hq943
 refine wv (v949) z z z (wl_nil (tn (wp_ret ?_)))
 obtain rfl := some_inj hm
 refine post_ret (vs := [v949]) results36 (rvs_cons (rv_tmp z) rvs_nil) ?_
 replace hst := hst.pull1
 exact ⟨v949, z, hst.keep1⟩
}
}
}
}

theorem ref13_Reply_ref {w0 w : World} {I : HL} {R : SP} {a0 : (List Int)} {r0_0 : Value} {a1 : api_Reply} {r1_0 : Value} {r1_1 : Value} (f0_0 : Rd (tyInt .u8) R I r0_0 a0) (f1_0 : Rd ty_api_Got R I r1_0 a1.Gots) (f1_1 : Rd (tySl ty_api_Pair) R I r1_1 a1.Scans) (hst : St w0 w I [] R) {r : ((List Int))} (hm : ref13_Reply a0 a1 = some r) :
  Calls prog 37 #[r0_0, .agg #[I6 a1.E, U6 a1.Epoch, U6 a1.Index, r1_0, r1_1]] w fun e w' => ∃ (q0_0 : Value), e = .returned (q0_0) ∧ St w0 w' I [ownS (tyInt .u8) q0_0 r] R := by {
 unfold ref13_Reply at hm
 refine calls_start (args := [r0_0, .agg #[I6 a1.E, U6 a1.Epoch, U6 a1.Index, r1_0, r1_1]]) func37 z ntmps37 (Nat.le_of_ble_eq_true z) ?_
 refine wp_seq (wrl ?_)
 obtain ⟨b912, w913, ew914, eb915, hst⟩ := hst.box [I6 a1.E, U6 a1.Epoch, U6 a1.Index, r1_0, r1_1] 41
 refine wl_run (v := Pt b912 0) (w' := w913) z z (x_al (by kernel_rfl) ew914 eb915) ?_
 refine wv ((.slice none 0 0)) z z z (wl_nil (tn (wp_seq (wrl (wv (r0_0) z z z (wv (Pt b912 0) z z (x_field z underlying41 z sizeOf37 z) (wv (.int .i64 a1.E) z z (x_load z isAgg37 (hst.bc0 z)) (wv (.int .u64 (u64.wrap a1.E)) z z (by kernel_rfl) ?_))))))))
 obtain ⟨t918, ht919, hm⟩ := bind_some hm
 refine wc call34 [r0_0, U6 (u64.wrap a1.E), I6 (1:Int)] z z z ?_
 refine (ref02_Num_ref (f0_0.mono (rd_weak _)) hst.to0 ht919).mono ?_
 rintro _ w920 ⟨v923, rfl, hst⟩
 refine ⟨_, z, ?_⟩
 replace hst := hst.of1
 refine wv (v923) z z z (wl_nil (tn (wp_seq ?_)))
 refine wp_region_St hst 8 [0, 1, 2, 3, 4, 5, 6, 7] [0, 0, 2, 7, 0, 16, 63, 127] [7] z (by kernel_rfl) (by kernel_rfl) Try.mixed (by kernel_rfl) ?_
 refine wsr (v923) 0 z z z (by kernel_rfl) (fun w hst => z) (wsr (Pt b912 1) 1 z z z (by kernel_rfl) (fun w hst => x_field z underlying41 z sizeOf25 z) (wsr (.int .u64 a1.Epoch) 2 z z z (by kernel_rfl) (fun w hst => x_load z isAgg25 (hst.bc1 z)) (wsr (Pt b912 2) 4 z z z (by kernel_rfl) (fun w hst => x_field z underlying41 z sizeOf25 z) (wsr (.int .u64 a1.Index) 5 z z z (by kernel_rfl) (fun w hst => x_load z isAgg25 (hst.bc1 z)) ?_))))
 refine ws_e1 3 (by kernel_rfl) ?_
 refine nxe [6, 7] (by kernel_rfl) z z ?_
 clear hst
 intro w hst
 obtain ⟨css925, hq926, hst⟩ := hst.own_open
 obtain ⟨t927, ht928, hm⟩ := bind_some hm
 refine wec call34 [v923, U6 a1.Epoch, I6 (8:Int)] z z ?_
 refine (ref02_Num_ref (hst.rdrow0 hq926) hst.to0 ht928).mono ?_
 rintro _ w929 ⟨v932, rfl, hst⟩
 refine ⟨_, z, ?_⟩
 replace hst := hst.of1.pull1.own_close hq926
 refine ws_next (pend' := [(5, U6 a1.Index), (4, Pt b912 2)]) hst (by kernel_rfl) (pkr z z (fun w hst => x_load z isAgg25 (hst.bc2 z)) (pkr z z (fun w hst => x_field z underlying41 z sizeOf25 z) pk_nil)) ?_
 refine ws_e1 6 (by kernel_rfl) ?_
 refine nxe [7] (by kernel_rfl) z z ?_
 clear hst
 intro w hst
 replace hst := hst.pull1
 obtain ⟨css934, hq935, hst⟩ := hst.own_open
 obtain ⟨t936, ht937, hm⟩ := bind_some hm
 refine wec call34 [v932, U6 a1.Index, I6 (8:Int)] z z ?_
 refine (ref02_Num_ref (hst.rdrow0 hq935) hst.to0 ht937).mono ?_
 rintro _ w938 ⟨v941, rfl, hst⟩
 refine ⟨_, z, ?_⟩
 replace hst := hst.of1.pull1.own_close hq935
 refine ws_next (pend' := []) hst (by kernel_rfl) pk_nil ?_
 refine ws_e1 7 (by kernel_rfl) ?_
 refine nxe [] (by kernel_rfl) z z ?_
 clear hst
 intro w hst
 refine we_run (v := v941) (w' := w) z z ?_
 refine ws_next (pend' := []) hst (by kernel_rfl) pk_nil ?_
 refine ws_nil ?_
 intro w hst
 refine tn (wp_seq (wrl (wv (v941) z z z (wv (Pt b912 3) z z (x_field z underlying41 z sizeOf38 z) (wv (r1_0) z z (x_load z isAgg38 (hst.bc3 z)) (wv (.int .i64 ((a1.Gots).length : Int)) z z (x_len z underlying38 (rd_sliceV f1_0)) (wv (.int .u64 (u64.wrap ((a1.Gots).length : Int))) z z (by kernel_rfl) ?_)))))))
 replace hst := hst.pull1
 obtain ⟨css943, hq944, hst⟩ := hst.own_open
 obtain ⟨t945, ht946, hm⟩ := bind_some hm
 refine wc call34 [v941, U6 (u64.wrap ((a1.Gots).length : Int)), I6 (4:Int)] z z z ?_
 refine (ref02_Num_ref (hst.rdrow0 hq944) hst.to0 ht946).mono ?_
 rintro _ w947 ⟨v950, rfl, hst⟩
 refine ⟨_, z, ?_⟩
 replace hst := hst.of1.pull1.own_close hq944
 refine wv (v950) z z z (wl_nil (tn ?_))
 obtain ⟨y1063, hm, hx1064⟩ := bind_some hm
 refine wp_cut (fun a w => ∃ (z1060 : (List Int)) (v1059 : Value) (σ1061 : Nat → Value), (ref13_Reply_j0 a1) z1060 = some r ∧ a = Fr 103 (upd (upd σ1061 0 (v1059)) 3 (Pt b912 0)) ∧ St w0 w I [ownS (tyInt .u8) v1059 z1060, cells b912 [I6 a1.E, U6 a1.Epoch, U6 a1.Index, r1_0, r1_1]] R) ?_ ?_
 {
 refine wp_seq (wrl (wv (.int .i64 (0:Int)) z z z (wl_nil (tn (wp_block ?_)))))
 replace hst := hst.sub.pull1.sub.pull1.sub
 obtain ⟨n1021, hm⟩ := loopO_some hm
 refine wp_loop_n (fun n a w => ∃ (z1016 : (List Int)) (z1019 : Int) (v1017 : Value) (σ1020 : Nat → Value), loopN (ref13_Reply_l1 a1) n (z1016, z1019) = some y1063 ∧ a = Fr 103 (upd (upd (upd σ1020 0 (v1017)) 3 (Pt b912 0)) 5 (.int .i64 z1019)) ∧ St w0 w I [ownS (tyInt .u8) v1017 z1016, cells b912 [I6 a1.E, U6 a1.Epoch, U6 a1.Index, r1_0, r1_1]] R) n1021 ⟨t945, (0:Int), v950, _, hm, (fu 0 v950 z (fu 3 (Pt b912 0) z (fu 5 (.int .i64 (0:Int)) z z))), hst⟩ ?_
 rintro n1027 _ w1022 ⟨z1016, z1019, v1017, σ1020, hm, rfl, hst⟩
 obtain ⟨n1024, y1025, rfl, hm, hx1026⟩ := loopN_some hm
 dsimp only [ref13_Reply_l1] at hm
 refine wp_seq (wp_seq (wrl (wv (.int .i64 z1019) z z z (wv (Pt b912 3) z z (x_field z underlying41 z sizeOf38 z) (wv (r1_0) z z (x_load z isAgg38 (hst.bc1 z)) (wv (.int .i64 ((a1.Gots).length : Int)) z z (x_len z underlying38 (rd_sliceV f1_0)) (wv (.bool (decide (z1019 < ((a1.Gots).length : Int)))) z z z (wl_nil (tn ?_)))))))))
 refine bsplit (decide (z1019 < ((a1.Gots).length : Int))) (fun hc1028 => ?_) (fun hc1028 => ?_)
 {
 replace hm := bif_t hc1028 hm
 refine wp_ift (cvb hc1028) ?_
 refine wp_skip (tn (wp_seq (wp_block ?_)))
 refine wp_region_St hst 16 [0, 1, 2, 3, 4, 5, 6, 7, 8, 9, 10, 11, 12, 13, 14, 15] [0, 0, 2, 0, 14, 30, 62, 127, 0, 256, 0, 1792, 3840, 7936, 16383, 32767] [15] z (by kernel_rfl) (by kernel_rfl) Try.mixed (by kernel_rfl) ?_
 refine wsr (v1017) 0 z z z (by kernel_rfl) (fun w hst => z) (wsr (Pt b912 3) 1 z z z (by kernel_rfl) (fun w hst => x_field z underlying41 z sizeOf38 z) (wsr (r1_0) 2 z z z (by kernel_rfl) (fun w hst => x_load z isAgg38 (hst.bc1 z)) (wsr (.int .i64 z1019) 3 z z z (by kernel_rfl) (fun w hst => z) ?_)))
 obtain ⟨x1029, hx1030, hm⟩ := bind_some hm
 obtain ⟨h1031, h1032, hi1033⟩ := geto_some hx1030
 refine wsr (.pointer (some (eAddr r1_0 (z1019.toNat * 2 + 0)))) 4 z z z (by kernel_rfl) (fun w hst => x_index z z underlying38 sizeOf104 (rd_sliceV f1_0) h1031 h1032) (wsr (.pointer (some (eAddr r1_0 (z1019.toNat * 2 + 0)))) 5 z z z (by kernel_rfl) (fun w hst => x_field_e z underlying104 z sizeOf4 z) ?_)
 obtain ⟨cs1034, hr1035, hc1036⟩ := Rd.getF f1_0 hi1033
 obtain ⟨v1037, rfl, f1038, -⟩ := hr1035
 refine wsr (.bool x1029.Has) 6 z z z (by kernel_rfl) (fun w hst => x_load z isAgg4 ((hc1036 (HL.le.refl _) hst) 0 _ z)) (wsr (Pt b912 3) 8 z z z (by kernel_rfl) (fun w hst => x_field z underlying41 z sizeOf38 z) (wsr (r1_0) 9 z z z (by kernel_rfl) (fun w hst => x_load z isAgg38 (hst.bc1 z)) (wsr (.int .i64 z1019) 10 z z z (by kernel_rfl) (fun w hst => z) (wsr (.pointer (some (eAddr r1_0 (z1019.toNat * 2 + 0)))) 11 z z z (by kernel_rfl) (fun w hst => x_index z z underlying38 sizeOf104 (rd_sliceV f1_0) h1031 h1032) (wsr (.pointer (some (eAddr r1_0 (z1019.toNat * 2 + 1)))) 12 z z z (by kernel_rfl) (fun w hst => x_field_e z underlying104 z sizeOf22 z) (wsr (v1037) 13 z z z (by kernel_rfl) (fun w hst => x_load z isAgg22 ((hc1036 (HL.le.refl _) hst) 1 _ z)) ?_))))))
 refine ws_e1 7 (by kernel_rfl) ?_
 refine nxe [14, 15] (by kernel_rfl) z z ?_
 clear hst
 intro w hst
 obtain ⟨css1040, hq1041, hst⟩ := hst.own_open
 obtain ⟨t1042, ht1043, hm⟩ := bind_some hm
 refine wec call60 [v1017, .bool x1029.Has] z z ?_
 refine (ref02_Flag_ref (hst.rdrow0 hq1041) hst.to0 ht1043).mono ?_
 rintro _ w1044 ⟨v1047, rfl, hst⟩
 refine ⟨_, z, ?_⟩
 replace hst := hst.of1.pull1.own_close hq1041
 refine ws_next (pend' := [(13, v1037), (12, .pointer (some (eAddr r1_0 (z1019.toNat * 2 + 1)))), (11, .pointer (some (eAddr r1_0 (z1019.toNat * 2 + 0)))), (10, I6 z1019), (9, r1_0), (8, Pt b912 3)]) hst (by kernel_rfl) (pkr z z (fun w hst => x_load z isAgg22 ((hc1036 (HL.le.refl _) hst) 1 _ z)) (pkr z z (fun w hst => x_field_e z underlying104 z sizeOf22 z) (pkr z z (fun w hst => x_index z z underlying38 sizeOf104 (rd_sliceV f1_0) h1031 h1032) (pkr z z (fun w hst => z) (pkr z z (fun w hst => x_load z isAgg38 (hst.bc2 z)) (pkr z z (fun w hst => x_field z underlying41 z sizeOf38 z) pk_nil)))))) ?_
 refine ws_e1 14 (by kernel_rfl) ?_
 refine nxe [15] (by kernel_rfl) z z ?_
 clear hst
 intro w hst
 replace hst := hst.pull1
 obtain ⟨css1049, hq1050, hst⟩ := hst.own_open
 obtain ⟨t1051, ht1052, hm⟩ := bind_some hm
 refine wec call38 [v1047, v1037] z z ?_
 refine (ref02_Bytes_ref (hst.rdrow0 hq1050) (f1038.mono (rd_weak _)) hst.to0 ht1052).mono ?_
 rintro _ w1053 ⟨v1056, rfl, hst⟩
 refine ⟨_, z, ?_⟩
 replace hst := hst.of1.pull1.own_close hq1050
 refine ws_next (pend' := []) hst (by kernel_rfl) pk_nil ?_
 refine ws_e1 15 (by kernel_rfl) ?_
 refine nxe [] (by kernel_rfl) z z ?_
 clear hst
 intro w hst
 refine we_run (v := v1056) (w' := w) z z ?_
 refine ws_next (pend' := []) hst (by kernel_rfl) pk_nil ?_
 refine ws_nil ?_
 intro w hst
 refine blk_n (tn (wrl ?_))
 refine wv (.int .i64 z1019) z z z (wv (.int .i64 (i64.wrap (z1019 + (1:Int)))) z z z (wv (.int .i64 (i64.wrap (z1019 + (1:Int)))) z z z (wl_nil (tn ?_))))
 replace hst := hst.pull3.pull2.keep2
 obtain rfl := some_inj hm
 exact ⟨_, Nat.lt_succ_self _, t1051, (i64.wrap (z1019 + (1:Int))), v1056, _, hx1026, (fu 0 v1056 z (fu 3 (Pt b912 0) z (fu 5 (.int .i64 (i64.wrap (z1019 + (1:Int)))) z z))), hst⟩
}
 {
 replace hm := bif_f hc1028 hm
 refine wp_iff (cvb hc1028) ?_
 refine wp_exit (then_x (then_x ?_))
 replace hm := inr_up hm hx1026
 refine blk_x (tn ?_)
 replace hst := hst.pull1.pull1.keep2
 obtain rfl := some_inj hm
 exact ⟨z1016, v1017, _, hx1064, (fu 0 v1017 z (fu 3 (Pt b912 0) z z)), hst⟩
}
}
 {
 clear hst
 rintro _ w1065 ⟨z1060, v1059, σ1061, hm, rfl, hst⟩
 dsimp only [ref13_Reply_j0] at hm
 refine wp_seq (wrl (wv (v1059) z z z (wv (Pt b912 4) z z (x_field z underlying41 z sizeOf39 z) (wv (r1_1) z z (x_load z isAgg39 (hst.bc1 z)) (wv (.int .i64 ((a1.Scans).length : Int)) z z (x_len z underlying39 (rd_sliceV f1_1)) (wv (.int .u64 (u64.wrap ((a1.Scans).length : Int))) z z (by kernel_rfl) ?_))))))
 obtain ⟨css1066, hq1067, hst⟩ := hst.own_open
 obtain ⟨t1068, ht1069, hm⟩ := bind_some hm
 refine wc call34 [v1059, U6 (u64.wrap ((a1.Scans).length : Int)), I6 (4:Int)] z z z ?_
 refine (ref02_Num_ref (hst.rdrow0 hq1067) hst.to0 ht1069).mono ?_
 rintro _ w1070 ⟨v1073, rfl, hst⟩
 refine ⟨_, z, ?_⟩
 replace hst := hst.of1.pull1.own_close hq1067
 refine wv (v1073) z z z (wl_nil (tn (wp_seq (wp_seq (wrl (wv (.int .i64 (0:Int)) z z z (wl_nil (tn (wp_block ?_)))))))))
 replace hst := hst.sub
 obtain ⟨n1404, hm⟩ := loopO_some hm
 refine wp_loop_n (fun n a w => ∃ (z1399 : (List Int)) (z1402 : Int) (v1400 : Value) (σ1403 : Nat → Value), loopN (ref13_Reply_l2 a1) n (z1399, z1402) = some r ∧ a = Fr 103 (upd (upd (upd σ1403 0 (v1400)) 3 (Pt b912 0)) 6 (.int .i64 z1402)) ∧ St w0 w I [ownS (tyInt .u8) v1400 z1399, cells b912 [I6 a1.E, U6 a1.Epoch, U6 a1.Index, r1_0, r1_1]] R) n1404 ⟨t1068, (0:Int), v1073, _, hm, (fu 0 v1073 z (fu 3 (Pt b912 0) z (fu 6 (.int .i64 (0:Int)) z z))), hst⟩ ?_
 rintro n1410 _ w1405 ⟨z1399, z1402, v1400, σ1403, hm, rfl, hst⟩
 obtain ⟨n1407, y1408, rfl, hm, hx1409⟩ := loopN_some hm
 dsimp only [ref13_Reply_l2] at hm
 refine wp_seq (wp_seq (wrl (wv (.int .i64 z1402) z z z (wv (Pt b912 4) z z (x_field z underlying41 z sizeOf39 z) (wv (r1_1) z z (x_load z isAgg39 (hst.bc1 z)) (wv (.int .i64 ((a1.Scans).length : Int)) z z (x_len z underlying39 (rd_sliceV f1_1)) (wv (.bool (decide (z1402 < ((a1.Scans).length : Int)))) z z z (wl_nil (tn ?_)))))))))
 refine bsplit (decide (z1402 < ((a1.Scans).length : Int))) (fun hc1411 => ?_) (fun hc1411 => ?_)
 {
 replace hm := bif_t hc1411 hm
 refine wp_ift (cvb hc1411) ?_
 refine wp_skip (tn (wp_seq (wp_block (wp_seq (wrl ?_)))))
 refine wv (v1400) z z z (wv (Pt b912 4) z z (x_field z underlying41 z sizeOf39 z) (wv (r1_1) z z (x_load z isAgg39 (hst.bc1 z)) (wv (.int .i64 z1402) z z z ?_)))
 obtain ⟨x1412, hx1413, hm⟩ := bind_some hm
 obtain ⟨h1414, h1415, hi1416⟩ := geto_some hx1413
 refine wv (.pointer (some (eAddr r1_1 (z1402.toNat * 1 + 0)))) z z (x_index z z underlying39 sizeOf105 (rd_sliceV f1_1) h1414 h1415) ?_
 obtain ⟨cs1417, hr1418, hc1419⟩ := Rd.getF f1_1 hi1416
 obtain ⟨v1420, rfl, f1421, -⟩ := hr1418
 refine wv (v1420) z z (x_load z isAgg105 ((hc1419 (HL.le.refl _) hst) 0 _ z)) (wv (.int .i64 ((x1412).length : Int)) z z (x_len z underlying105 (rd_sliceV f1421)) (wv (.int .u64 (u64.wrap ((x1412).length : Int))) z z (by kernel_rfl) ?_))
 obtain ⟨css1423, hq1424, hst⟩ := hst.own_open
 obtain ⟨t1425, ht1426, hm⟩ := bind_some hm
 refine wc call34 [v1400, U6 (u64.wrap ((x1412).length : Int)), I6 (4:Int)] z z z ?_
 refine (ref02_Num_ref (hst.rdrow0 hq1424) hst.to0 ht1426).mono ?_
 rintro _ w1427 ⟨v1430, rfl, hst⟩
 refine ⟨_, z, ?_⟩
 replace hst := hst.of1.pull1.own_close hq1424
 refine wv (v1430) z z z (wl_nil (tn (wp_seq (wrl (wv (.int .i64 (0:Int)) z z z (wl_nil (tn (wp_block ?_))))))))
 replace hst := hst.sub
 obtain ⟨n1523, hm⟩ := loopO_some hm
 refine wp_loop_n (fun n a w => ∃ (z1518 : (List Int)) (z1521 : Int) (v1519 : Value) (σ1522 : Nat → Value), loopN (ref13_Reply_l3 x1412 z1402) n (z1518, z1521) = some y1408 ∧ a = Fr 103 (upd (upd (upd (upd σ1522 0 (v1519)) 3 (Pt b912 0)) 6 (.int .i64 z1402)) 7 (.int .i64 z1521)) ∧ St w0 w I [ownS (tyInt .u8) v1519 z1518, cells b912 [I6 a1.E, U6 a1.Epoch, U6 a1.Index, r1_0, r1_1]] R) n1523 ⟨t1425, (0:Int), v1430, _, hm, (fu 0 v1430 z (fu 3 (Pt b912 0) z (fu 6 (.int .i64 z1402) z (fu 7 (.int .i64 (0:Int)) z z)))), hst⟩ ?_
 rintro n1529 _ w1524 ⟨z1518, z1521, v1519, σ1522, hm, rfl, hst⟩
 obtain ⟨n1526, y1527, rfl, hm, hx1528⟩ := loopN_some hm
 dsimp only [ref13_Reply_l3] at hm
 refine wp_seq (wp_seq (wrl (wv (.int .i64 z1521) z z z (wv (Pt b912 4) z z (x_field z underlying41 z sizeOf39 z) (wv (r1_1) z z (x_load z isAgg39 (hst.bc1 z)) (wv (.int .i64 z1402) z z z (wv (.pointer (some (eAddr r1_1 (z1402.toNat * 1 + 0)))) z z (x_index z z underlying39 sizeOf105 (rd_sliceV f1_1) h1414 h1415) ?_)))))))
 obtain ⟨cs1530, hr1531, hc1532⟩ := Rd.getF f1_1 hi1416
 obtain ⟨v1533, rfl, f1534, -⟩ := hr1531
 refine wv (v1533) z z (x_load z isAgg105 ((hc1532 (HL.le.refl _) hst) 0 _ z)) (wv (.int .i64 ((x1412).length : Int)) z z (x_len z underlying105 (rd_sliceV f1534)) (wv (.bool (decide (z1521 < ((x1412).length : Int)))) z z z (wl_nil (tn ?_))))
 refine bsplit (decide (z1521 < ((x1412).length : Int))) (fun hc1536 => ?_) (fun hc1536 => ?_)
 {
 replace hm := bif_t hc1536 hm
 refine wp_ift (cvb hc1536) ?_
 refine wp_skip (tn (wp_seq (wp_block ?_)))
 refine wp_region_St hst 23 [0, 1, 2, 3, 4, 5, 6, 7, 8, 9, 10, 11, 12, 13, 14, 15, 16, 17, 18, 19, 20, 21, 22] [0, 0, 2, 0, 14, 30, 0, 126, 254, 510, 1022, 2047, 0, 4096, 0, 28672, 61440, 0, 258048, 520192, 1044480, 2097151, 4194303] [22] z (by kernel_rfl) (by kernel_rfl) Try.mixed (by kernel_rfl) ?_
 refine wsr (v1519) 0 z z z (by kernel_rfl) (fun w hst => z) (wsr (Pt b912 4) 1 z z z (by kernel_rfl) (fun w hst => x_field z underlying41 z sizeOf39 z) (wsr (r1_1) 2 z z z (by kernel_rfl) (fun w hst => x_load z isAgg39 (hst.bc1 z)) (wsr (.int .i64 z1402) 3 z z z (by kernel_rfl) (fun w hst => z) (wsr (.pointer (some (eAddr r1_1 (z1402.toNat * 1 + 0)))) 4 z z z (by kernel_rfl) (fun w hst => x_index z z underlying39 sizeOf105 (rd_sliceV f1_1) h1414 h1415) (wsr (v1533) 5 z z z (by kernel_rfl) (fun w hst => x_load z isAgg105 ((hc1532 (HL.le.refl _) hst) 0 _ z)) (wsr (.int .i64 z1521) 6 z z z (by kernel_rfl) (fun w hst => z) ?_))))))
 obtain ⟨x1537, hx1538, hm⟩ := bind_some hm
 obtain ⟨h1539, h1540, hi1541⟩ := geto_some hx1538
 refine wsr (.pointer (some (eAddr v1533 (z1521.toNat * 2 + 0)))) 7 z z z (by kernel_rfl) (fun w hst => x_index z z underlying105 sizeOf107 (rd_sliceV f1534) h1539 h1540) (wsr (.pointer (some (eAddr v1533 (z1521.toNat * 2 + 0)))) 8 z z z (by kernel_rfl) (fun w hst => x_field_e z underlying107 z sizeOf44 z) ?_)
 obtain ⟨cs1542, hr1543, hc1544⟩ := Rd.getF f1534 hi1541
 obtain ⟨v1545, rfl, f1546, -⟩ := hr1543
 refine wsr (.float .f64 x1537.At) 9 z z z (by kernel_rfl) (fun w hst => x_load z isAgg44 ((hc1544 (HL.le.refl _) hst) 0 _ z)) (wsr (Pt b912 4) 12 z z z (by kernel_rfl) (fun w hst => x_field z underlying41 z sizeOf39 z) (wsr (r1_1) 13 z z z (by kernel_rfl) (fun w hst => x_load z isAgg39 (hst.bc1 z)) (wsr (.int .i64 z1402) 14 z z z (by kernel_rfl) (fun w hst => z) (wsr (.pointer (some (eAddr r1_1 (z1402.toNat * 1 + 0)))) 15 z z z (by kernel_rfl) (fun w hst => x_index z z underlying39 sizeOf105 (rd_sliceV f1_1) h1414 h1415) (wsr (v1533) 16 z z z (by kernel_rfl) (fun w hst => x_load z isAgg105 ((hc1532 (HL.le.refl _) hst) 0 _ z)) (wsr (.int .i64 z1521) 17 z z z (by kernel_rfl) (fun w hst => z) (wsr (.pointer (some (eAddr v1533 (z1521.toNat * 2 + 0)))) 18 z z z (by kernel_rfl) (fun w hst => x_index z z underlying105 sizeOf107 (rd_sliceV f1534) h1539 h1540) (wsr (.pointer (some (eAddr v1533 (z1521.toNat * 2 + 1)))) 19 z z z (by kernel_rfl) (fun w hst => x_field_e z underlying107 z sizeOf22 z) (wsr (v1545) 20 z z z (by kernel_rfl) (fun w hst => x_load z isAgg22 ((hc1544 (HL.le.refl _) hst) 1 _ z)) ?_)))))))))
 refine ws_e1 10 (by kernel_rfl) ?_
 refine nxe [11, 21, 22] (by kernel_rfl) z z ?_
 clear hst
 intro w hst
 obtain ⟨t1548, ht1549, hm⟩ := bind_some hm
 refine wec call61 [F6 x1537.At] z z ?_
 refine (ref01_Rank_ref hst.to0 ht1549).mono ?_
 rintro _ w1550 ⟨rfl, hst⟩
 refine ⟨_, z, ?_⟩
 replace hst := hst.of0
 refine ws_next (pend' := [(20, v1545), (19, .pointer (some (eAddr v1533 (z1521.toNat * 2 + 1)))), (18, .pointer (some (eAddr v1533 (z1521.toNat * 2 + 0)))), (17, I6 z1521), (16, v1533), (15, .pointer (some (eAddr r1_1 (z1402.toNat * 1 + 0)))), (14, I6 z1402), (13, r1_1), (12, Pt b912 4), (0, v1519)]) hst (by kernel_rfl) (pkr z z (fun w hst => x_load z isAgg22 ((hc1544 (HL.le.refl _) hst) 1 _ z)) (pkr z z (fun w hst => x_field_e z underlying107 z sizeOf22 z) (pkr z z (fun w hst => x_index z z underlying105 sizeOf107 (rd_sliceV f1534) h1539 h1540) (pkr z z (fun w hst => z) (pkr z z (fun w hst => x_load z isAgg105 ((hc1532 (HL.le.refl _) hst) 0 _ z)) (pkr z z (fun w hst => x_index z z underlying39 sizeOf105 (rd_sliceV f1_1) h1414 h1415) (pkr z z (fun w hst => z) (pkr z z (fun w hst => x_load z isAgg39 (hst.bc1 z)) (pkr z z (fun w hst => x_field z underlying41 z sizeOf39 z) (pkr z z (fun w hst => z) pk_nil)))))))))) ?_
 refine ws_e1 11 (by kernel_rfl) ?_
 refine nxe [21, 22] (by kernel_rfl) z z ?_
 clear hst
 intro w hst
 obtain ⟨css1553, hq1554, hst⟩ := hst.own_open
 obtain ⟨t1555, ht1556, hm⟩ := bind_some hm
 refine wec call34 [v1519, U6 t1548, I6 (8:Int)] z z ?_
 refine (ref02_Num_ref (hst.rdrow0 hq1554) hst.to0 ht1556).mono ?_
 rintro _ w1557 ⟨v1560, rfl, hst⟩
 refine ⟨_, z, ?_⟩
 replace hst := hst.of1.pull1.own_close hq1554
 refine ws_next (pend' := [(20, v1545), (19, .pointer (some (eAddr v1533 (z1521.toNat * 2 + 1)))), (18, .pointer (some (eAddr v1533 (z1521.toNat * 2 + 0)))), (17, I6 z1521), (16, v1533), (15, .pointer (some (eAddr r1_1 (z1402.toNat * 1 + 0)))), (14, I6 z1402), (13, r1_1), (12, Pt b912 4)]) hst (by kernel_rfl) (pkr z z (fun w hst => x_load z isAgg22 ((hc1544 (HL.le.refl _) hst) 1 _ z)) (pkr z z (fun w hst => x_field_e z underlying107 z sizeOf22 z) (pkr z z (fun w hst => x_index z z underlying105 sizeOf107 (rd_sliceV f1534) h1539 h1540) (pkr z z (fun w hst => z) (pkr z z (fun w hst => x_load z isAgg105 ((hc1532 (HL.le.refl _) hst) 0 _ z)) (pkr z z (fun w hst => x_index z z underlying39 sizeOf105 (rd_sliceV f1_1) h1414 h1415) (pkr z z (fun w hst => z) (pkr z z (fun w hst => x_load z isAgg39 (hst.bc2 z)) (pkr z z (fun w hst => x_field z underlying41 z sizeOf39 z) pk_nil))))))))) ?_
 refine ws_e1 21 (by kernel_rfl) ?_
 refine nxe [22] (by kernel_rfl) z z ?_
 clear hst
 intro w hst
 replace hst := hst.pull1
 obtain ⟨css1562, hq1563, hst⟩ := hst.own_open
 obtain ⟨t1564, ht1565, hm⟩ := bind_some hm
 refine wec call38 [v1560, v1545] z z ?_
 refine (ref02_Bytes_ref (hst.rdrow0 hq1563) (f1546.mono (rd_weak _)) hst.to0 ht1565).mono ?_
 rintro _ w1566 ⟨v1569, rfl, hst⟩
 refine ⟨_, z, ?_⟩
 replace hst := hst.of1.pull1.own_close hq1563
 refine ws_next (pend' := []) hst (by kernel_rfl) pk_nil ?_
 refine ws_e1 22 (by kernel_rfl) ?_
 refine nxe [] (by kernel_rfl) z z ?_
 clear hst
 intro w hst
 refine we_run (v := v1569) (w' := w) z z ?_
 refine ws_next (pend' := []) hst (by kernel_rfl) pk_nil ?_
 refine ws_nil ?_
 intro w hst
 refine blk_n (tn (wrl ?_))
 refine wv (.int .i64 z1521) z z z (wv (.int .i64 (i64.wrap (z1521 + (1:Int)))) z z z (wv (.int .i64 (i64.wrap (z1521 + (1:Int)))) z z z (wl_nil (tn ?_))))
 replace hst := hst.pull3.pull2.keep2
 obtain rfl := some_inj hm
 exact ⟨_, Nat.lt_succ_self _, t1564, (i64.wrap (z1521 + (1:Int))), v1569, _, hx1528, (fu 0 v1569 z (fu 3 (Pt b912 0) z (fu 6 (.int .i64 z1402) z (fu 7 (.int .i64 (i64.wrap (z1521 + (1:Int)))) z z)))), hst⟩
}
 {
 replace hm := bif_f hc1536 hm
 refine wp_iff (cvb hc1536) ?_
 refine wp_exit (then_x (then_x ?_))
 replace hm := inr_up hm hx1528
 refine blk_x (blk_n (tn (wrl ?_)))
 refine wv (.int .i64 z1402) z z z (wv (.int .i64 (i64.wrap (z1402 + (1:Int)))) z z z (wv (.int .i64 (i64.wrap (z1402 + (1:Int)))) z z z (wl_nil (tn ?_))))
 replace hst := hst.pull1.pull1.keep2
 obtain rfl := some_inj hm
 exact ⟨_, Nat.lt_succ_self _, z1518, (i64.wrap (z1402 + (1:Int))), v1519, _, hx1409, (fu 0 v1519 z (fu 3 (Pt b912 0) z (fu 6 (.int .i64 (i64.wrap (z1402 + (1:Int)))) z z))), hst⟩
}
}
 {
 replace hm := bif_f hc1411 hm
 refine wp_iff (cvb hc1411) ?_
 refine wp_exit (then_x (then_x ?_))
 replace hm := inr_up hm hx1409
 refine blk_x (tn (wp_seq (wrl ?_)))
 refine wv (v1400) z z z (wv (v1400) z z z (wl_nil (tn (wp_ret ?_))))
 obtain rfl := some_inj hm
 refine post_ret (vs := [v1400]) results37 (rvs_cons (rv_tmp z) rvs_nil) ?_
 exact ⟨v1400, z, hst.keep1⟩
}
}
}

theorem ref13_Writes_ref {w0 w : World} {I : HL} {R : SP} {a0 : (List Int)} {r0_0 : Value} {a1 : (List api_Write)} {r1_0 : Value} (f0_0 : Rd (tyInt .u8) R I r0_0 a0) (f1_0 : Rd ty_api_Write R I r1_0 a1) (hst : St w0 w I [] R) {r : ((List Int))} (hm : ref13_Writes a0 a1 = some r) :
  Calls prog 62 #[r0_0, r1_0] w fun e w' => ∃ (q0_0 : Value), e = .returned (q0_0) ∧ St w0 w' I [ownS (tyInt .u8) q0_0 r] R := by {
 unfold ref13_Writes at hm
 refine calls_start (args := [r0_0, r1_0]) func62 z ntmps62 (Nat.le_of_ble_eq_true z) ?_
 refine wp_seq (wrl (wv ((.slice none 0 0)) z z z (wl_nil (tn (wp_seq (wrl (wv (r0_0) z z z (wv (r1_0) z z z (wv (.int .i64 ((a1).length : Int)) z z (x_len z underlying42 (rd_sliceV f1_0)) (wv (.int .u64 (u64.wrap ((a1).length : Int))) z z (by kernel_rfl) ?_))))))))))
 obtain ⟨t489, ht490, hm⟩ := bind_some hm
 refine wc call34 [r0_0, U6 (u64.wrap ((a1).length : Int)), I6 (4:Int)] z z z ?_
 refine (ref02_Num_ref (f0_0.mono (rd_weak _)) hst.to0 ht490).mono ?_
 rintro _ w491 ⟨v494, rfl, hst⟩
 refine ⟨_, z, ?_⟩
 replace hst := hst.of1
 refine wv (v494) z z z (wl_nil (tn (wp_seq (wp_seq (wrl (wv (.int .i64 (0:Int)) z z z (wl_nil (tn (wp_block ?_)))))))))
 obtain ⟨n593, hm⟩ := loopO_some hm
 refine wp_loop_n (fun n a w => ∃ (z588 : (List Int)) (z591 : Int) (v589 : Value) (σ592 : Nat → Value), loopN (ref13_Writes_l0 a1) n (z588, z591) = some r ∧ a = Fr 38 (upd (upd (upd σ592 0 (v589)) 1 (r1_0)) 5 (.int .i64 z591)) ∧ St w0 w I [ownS (tyInt .u8) v589 z588] R) n593 ⟨t489, (0:Int), v494, _, hm, (fu 0 v494 z (fu 1 r1_0 z (fu 5 (.int .i64 (0:Int)) z z))), hst⟩ ?_
 rintro n599 _ w594 ⟨z588, z591, v589, σ592, hm, rfl, hst⟩
 obtain ⟨n596, y597, rfl, hm, hx598⟩ := loopN_some hm
 dsimp only [ref13_Writes_l0] at hm
 refine wp_seq (wp_seq (wrl (wv (.int .i64 z591) z z z (wv (r1_0) z z z (wv (.int .i64 ((a1).length : Int)) z z (x_len z underlying42 (rd_sliceV f1_0)) (wv (.bool (decide (z591 < ((a1).length : Int)))) z z z (wl_nil (tn ?_))))))))
 refine bsplit (decide (z591 < ((a1).length : Int))) (fun hc600 => ?_) (fun hc600 => ?_)
 {
 replace hm := bif_t hc600 hm
 refine wp_ift (cvb hc600) ?_
 refine wp_skip (tn (wp_seq (wp_block ?_)))
 refine wp_region_St hst 21 [0, 1, 2, 3, 4, 5, 6, 7, 8, 9, 10, 11, 12, 13, 14, 15, 16, 17, 18, 19, 20] [0, 0, 0, 6, 14, 30, 62, 127, 0, 0, 768, 1792, 3840, 8191, 0, 0, 49152, 114688, 245760, 524287, 1048575] [20] z (by kernel_rfl) (by kernel_rfl) Try.mixed (by kernel_rfl) ?_
 refine wsr (v589) 0 z z z (by kernel_rfl) (fun w hst => z) (wsr (r1_0) 1 z z z (by kernel_rfl) (fun w hst => z) (wsr (.int .i64 z591) 2 z z z (by kernel_rfl) (fun w hst => z) ?_))
 obtain ⟨x601, hx602, hm⟩ := bind_some hm
 obtain ⟨h603, h604, hi605⟩ := geto_some hx602
 refine wsr (.pointer (some (eAddr r1_0 (z591.toNat * 3 + 0)))) 3 z z z (by kernel_rfl) (fun w hst => x_index z z underlying42 sizeOf120 (rd_sliceV f1_0) h603 h604) (wsr (.pointer (some (eAddr r1_0 (z591.toNat * 3 + 0)))) 4 z z z (by kernel_rfl) (fun w hst => x_field_e z underlying120 z sizeOf44 z) ?_)
 obtain ⟨cs606, hr607, hc608⟩ := Rd.getF f1_0 hi605
 obtain ⟨v609, rfl, f610, -⟩ := hr607
 refine wsr (.float .f64 x601.At) 5 z z z (by kernel_rfl) (fun w hst => x_load z isAgg44 ((hc608 (HL.le.refl _) hst) 0 _ z)) (wsr (r1_0) 8 z z z (by kernel_rfl) (fun w hst => z) (wsr (.int .i64 z591) 9 z z z (by kernel_rfl) (fun w hst => z) (wsr (.pointer (some (eAddr r1_0 (z591.toNat * 3 + 0)))) 10 z z z (by kernel_rfl) (fun w hst => x_index z z underlying42 sizeOf120 (rd_sliceV f1_0) h603 h604) (wsr (.pointer (some (eAddr r1_0 (z591.toNat * 3 + 1)))) 11 z z z (by kernel_rfl) (fun w hst => x_field_e z underlying120 z sizeOf4 z) (wsr (.bool x601.Del) 12 z z z (by kernel_rfl) (fun w hst => x_load z isAgg4 ((hc608 (HL.le.refl _) hst) 1 _ z)) (wsr (r1_0) 14 z z z (by kernel_rfl) (fun w hst => z) (wsr (.int .i64 z591) 15 z z z (by kernel_rfl) (fun w hst => z) (wsr (.pointer (some (eAddr r1_0 (z591.toNat * 3 + 0)))) 16 z z z (by kernel_rfl) (fun w hst => x_index z z underlying42 sizeOf120 (rd_sliceV f1_0) h603 h604) (wsr (.pointer (some (eAddr r1_0 (z591.toNat * 3 + 2)))) 17 z z z (by kernel_rfl) (fun w hst => x_field_e z underlying120 z sizeOf22 z) (wsr (v609) 18 z z z (by kernel_rfl) (fun w hst => x_load z isAgg22 ((hc608 (HL.le.refl _) hst) 2 _ z)) ?_))))))))))
 refine ws_e1 6 (by kernel_rfl) ?_
 refine nxe [7, 13, 19, 20] (by kernel_rfl) z z ?_
 clear hst
 intro w hst
 obtain ⟨t612, ht613, hm⟩ := bind_some hm
 refine wec call61 [F6 x601.At] z z ?_
 refine (ref01_Rank_ref hst.to0 ht613).mono ?_
 rintro _ w614 ⟨rfl, hst⟩
 refine ⟨_, z, ?_⟩
 replace hst := hst.of0
 refine ws_next (pend' := [(18, v609), (17, .pointer (some (eAddr r1_0 (z591.toNat * 3 + 2)))), (16, .pointer (some (eAddr r1_0 (z591.toNat * 3 + 0)))), (15, I6 z591), (14, r1_0), (12, .bool x601.Del), (11, .pointer (some (eAddr r1_0 (z591.toNat * 3 + 1)))), (10, .pointer (some (eAddr r1_0 (z591.toNat * 3 + 0)))), (9, I6 z591), (8, r1_0), (0, v589)]) hst (by kernel_rfl) (pkr z z (fun w hst => x_load z isAgg22 ((hc608 (HL.le.refl _) hst) 2 _ z)) (pkr z z (fun w hst => x_field_e z underlying120 z sizeOf22 z) (pkr z z (fun w hst => x_index z z underlying42 sizeOf120 (rd_sliceV f1_0) h603 h604) (pkr z z (fun w hst => z) (pkr z z (fun w hst => z) (pkr z z (fun w hst => x_load z isAgg4 ((hc608 (HL.le.refl _) hst) 1 _ z)) (pkr z z (fun w hst => x_field_e z underlying120 z sizeOf4 z) (pkr z z (fun w hst => x_index z z underlying42 sizeOf120 (rd_sliceV f1_0) h603 h604) (pkr z z (fun w hst => z) (pkr z z (fun w hst => z) (pkr z z (fun w hst => z) pk_nil))))))))))) ?_
 refine ws_e1 7 (by kernel_rfl) ?_
 refine nxe [13, 19, 20] (by kernel_rfl) z z ?_
 clear hst
 intro w hst
 obtain ⟨css617, hq618, hst⟩ := hst.own_open
 obtain ⟨t619, ht620, hm⟩ := bind_some hm
 refine wec call34 [v589, U6 t612, I6 (8:Int)] z z ?_
 refine (ref02_Num_ref (hst.rdrow0 hq618) hst.to0 ht620).mono ?_
 rintro _ w621 ⟨v624, rfl, hst⟩
 refine ⟨_, z, ?_⟩
 replace hst := hst.of1.pull1.own_close hq618
 refine ws_next (pend' := [(18, v609), (17, .pointer (some (eAddr r1_0 (z591.toNat * 3 + 2)))), (16, .pointer (some (eAddr r1_0 (z591.toNat * 3 + 0)))), (15, I6 z591), (14, r1_0), (12, .bool x601.Del), (11, .pointer (some (eAddr r1_0 (z591.toNat * 3 + 1)))), (10, .pointer (some (eAddr r1_0 (z591.toNat * 3 + 0)))), (9, I6 z591), (8, r1_0)]) hst (by kernel_rfl) (pkr z z (fun w hst => x_load z isAgg22 ((hc608 (HL.le.refl _) hst) 2 _ z)) (pkr z z (fun w hst => x_field_e z underlying120 z sizeOf22 z) (pkr z z (fun w hst => x_index z z underlying42 sizeOf120 (rd_sliceV f1_0) h603 h604) (pkr z z (fun w hst => z) (pkr z z (fun w hst => z) (pkr z z (fun w hst => x_load z isAgg4 ((hc608 (HL.le.refl _) hst) 1 _ z)) (pkr z z (fun w hst => x_field_e z underlying120 z sizeOf4 z) (pkr z z (fun w hst => x_index z z underlying42 sizeOf120 (rd_sliceV f1_0) h603 h604) (pkr z z (fun w hst => z) (pkr z z (fun w hst => z) pk_nil)))))))))) ?_
 refine ws_e1 13 (by kernel_rfl) ?_
 refine nxe [19, 20] (by kernel_rfl) z z ?_
 clear hst
 intro w hst
 replace hst := hst.pull1
 obtain ⟨css626, hq627, hst⟩ := hst.own_open
 obtain ⟨t628, ht629, hm⟩ := bind_some hm
 refine wec call60 [v624, .bool x601.Del] z z ?_
 refine (ref02_Flag_ref (hst.rdrow0 hq627) hst.to0 ht629).mono ?_
 rintro _ w630 ⟨v633, rfl, hst⟩
 refine ⟨_, z, ?_⟩
 replace hst := hst.of1.pull1.own_close hq627
 refine ws_next (pend' := [(18, v609), (17, .pointer (some (eAddr r1_0 (z591.toNat * 3 + 2)))), (16, .pointer (some (eAddr r1_0 (z591.toNat * 3 + 0)))), (15, I6 z591), (14, r1_0)]) hst (by kernel_rfl) (pkr z z (fun w hst => x_load z isAgg22 ((hc608 (HL.le.refl _) hst) 2 _ z)) (pkr z z (fun w hst => x_field_e z underlying120 z sizeOf22 z) (pkr z z (fun w hst => x_index z z underlying42 sizeOf120 (rd_sliceV f1_0) h603 h604) (pkr z z (fun w hst => z) (pkr z z (fun w hst => z) pk_nil))))) ?_
 refine ws_e1 19 (by kernel_rfl) ?_
 refine nxe [20] (by kernel_rfl) z z ?_
 clear hst
 intro w hst
 replace hst := hst.pull1
 obtain ⟨css635, hq636, hst⟩ := hst.own_open
 obtain ⟨t637, ht638, hm⟩ := bind_some hm
 refine wec call38 [v633, v609] z z ?_
 refine (ref02_Bytes_ref (hst.rdrow0 hq636) (f610.mono (rd_weak _)) hst.to0 ht638).mono ?_
 rintro _ w639 ⟨v642, rfl, hst⟩
 refine ⟨_, z, ?_⟩
 replace hst := hst.of1.pull1.own_close hq636
 refine ws_next (pend' := []) hst (by kernel_rfl) pk_nil ?_
 refine ws_e1 20 (by kernel_rfl) ?_
 refine nxe [] (by kernel_rfl) z z ?_
 clear hst
 intro w hst
 refine we_run (v := v642) (w' := w) z z ?_
 refine ws_next (pend' := []) hst (by kernel_rfl) pk_nil ?_
 refine ws_nil ?_
 intro w hst
 refine blk_n (tn (wrl ?_))
 refine wv (.int .i64 z591) z z z (wv (.int .i64 (i64.wrap (z591 + (1:Int)))) z z z (wv (.int .i64 (i64.wrap (z591 + (1:Int)))) z z z (wl_nil (tn ?_))))
 replace hst := hst.pull1.keep1
 obtain rfl := some_inj hm
 exact ⟨_, Nat.lt_succ_self _, t637, (i64.wrap (z591 + (1:Int))), v642, _, hx598, (fu 0 v642 z (fu 1 r1_0 z (fu 5 (.int .i64 (i64.wrap (z591 + (1:Int)))) z z))), hst⟩
}
 {
 replace hm := bif_f hc600 hm
 refine wp_iff (cvb hc600) ?_
 refine wp_exit (then_x (then_x ?_))
 replace hm := inr_up hm hx598
 refine blk_x (tn (wp_seq (wrl ?_)))
 refine wv (v589) z z z (wv (v589) z z z (wl_nil (tn (wp_ret ?_))))
 obtain rfl := some_inj hm
 refine post_ret (vs := [v589]) results62 (rvs_cons (rv_tmp z) rvs_nil) ?_
 exact ⟨v589, z, hst.keep1⟩
}
}

theorem ref13_Rule_ref {w0 w : World} {I : HL} {R : SP} {a0 : (List Int)} {r0_0 : Value} {a1 : api_Rule} (f0_0 : Rd (tyInt .u8) R I r0_0 a0) (hst : St w0 w I [] R) {r : ((List Int))} (hm : ref13_Rule a0 a1 = some r) :
  Calls prog 63 #[r0_0, .agg #[U6 a1.ID, I6 a1.From, I6 a1.To, F6 a1.Lo, F6 a1.Hi, U6 a1.Authority, I6 a1.Quota]] w fun e w' => ∃ (q0_0 : Value), e = .returned (q0_0) ∧ St w0 w' I [ownS (tyInt .u8) q0_0 r] R := by {
 unfold ref13_Rule at hm
 refine calls_start (args := [r0_0, .agg #[U6 a1.ID, I6 a1.From, I6 a1.To, F6 a1.Lo, F6 a1.Hi, U6 a1.Authority, I6 a1.Quota]]) func63 z ntmps63 (Nat.le_of_ble_eq_true z) ?_
 refine wp_seq (wrl ?_)
 obtain ⟨b605, w606, ew607, eb608, hst⟩ := hst.box [U6 a1.ID, I6 a1.From, I6 a1.To, F6 a1.Lo, F6 a1.Hi, U6 a1.Authority, I6 a1.Quota] 46
 refine wl_run (v := Pt b605 0) (w' := w606) z z (x_al (by kernel_rfl) ew607 eb608) ?_
 refine wv ((.slice none 0 0)) z z z (wl_nil (tn (wp_seq (wrl (wv (r0_0) z z z (wv (Pt b605 0) z z (x_field z underlying46 z sizeOf25 z) (wv (.int .u64 a1.ID) z z (x_load z isAgg25 (hst.bc0 z)) ?_)))))))
 obtain ⟨t611, ht612, hm⟩ := bind_some hm
 refine wc call34 [r0_0, U6 a1.ID, I6 (8:Int)] z z z ?_
 refine (ref02_Num_ref (f0_0.mono (rd_weak _)) hst.to0 ht612).mono ?_
 rintro _ w613 ⟨v616, rfl, hst⟩
 refine ⟨_, z, ?_⟩
 replace hst := hst.of1
 refine wv (v616) z z z (wl_nil (tn (wp_seq ?_)))
 refine wp_region_St hst 10 [0, 1, 2, 3, 4, 5, 6, 7, 8, 9] [0, 0, 2, 6, 15, 0, 32, 96, 255, 511] [9] z (by kernel_rfl) (by kernel_rfl) Try.mixed (by kernel_rfl) ?_
 refine wsr (v616) 0 z z z (by kernel_rfl) (fun w hst => z) (wsr (Pt b605 1) 1 z z z (by kernel_rfl) (fun w hst => x_field z underlying46 z sizeOf3 z) (wsr (.int .i64 a1.From) 2 z z z (by kernel_rfl) (fun w hst => x_load z isAgg3 (hst.bc1 z)) (wsr (.int .u64 (u64.wrap a1.From)) 3 z z z (by kernel_rfl) (fun w hst => by kernel_rfl) (wsr (Pt b605 2) 5 z z z (by kernel_rfl) (fun w hst => x_field z underlying46 z sizeOf3 z) (wsr (.int .i64 a1.To) 6 z z z (by kernel_rfl) (fun w hst => x_load z isAgg3 (hst.bc1 z)) (wsr (.int .u64 (u64.wrap a1.To)) 7 z z z (by kernel_rfl) (fun w hst => by kernel_rfl) ?_))))))
 refine ws_e1 4 (by kernel_rfl) ?_
 refine nxe [8, 9] (by kernel_rfl) z z ?_
 clear hst
 intro w hst
 obtain ⟨css618, hq619, hst⟩ := hst.own_open
 obtain ⟨t620, ht621, hm⟩ := bind_some hm
 refine wec call34 [v616, U6 (u64.wrap a1.From), I6 (1:Int)] z z ?_
 refine (ref02_Num_ref (hst.rdrow0 hq619) hst.to0 ht621).mono ?_
 rintro _ w622 ⟨v625, rfl, hst⟩
 refine ⟨_, z, ?_⟩
 replace hst := hst.of1.pull1.own_close hq619
 refine ws_next (pend' := [(7, U6 (u64.wrap a1.To)), (6, I6 a1.To), (5, Pt b605 2)]) hst (by kernel_rfl) (pkr z z (fun w hst => by kernel_rfl) (pkr z z (fun w hst => x_load z isAgg3 (hst.bc2 z)) (pkr z z (fun w hst => x_field z underlying46 z sizeOf3 z) pk_nil))) ?_
 refine ws_e1 8 (by kernel_rfl) ?_
 refine nxe [9] (by kernel_rfl) z z ?_
 clear hst
 intro w hst
 replace hst := hst.pull1
 obtain ⟨css627, hq628, hst⟩ := hst.own_open
 obtain ⟨t629, ht630, hm⟩ := bind_some hm
 refine wec call34 [v625, U6 (u64.wrap a1.To), I6 (1:Int)] z z ?_
 refine (ref02_Num_ref (hst.rdrow0 hq628) hst.to0 ht630).mono ?_
 rintro _ w631 ⟨v634, rfl, hst⟩
 refine ⟨_, z, ?_⟩
 replace hst := hst.of1.pull1.own_close hq628
 refine ws_next (pend' := []) hst (by kernel_rfl) pk_nil ?_
 refine ws_e1 9 (by kernel_rfl) ?_
 refine nxe [] (by kernel_rfl) z z ?_
 clear hst
 intro w hst
 refine we_run (v := v634) (w' := w) z z ?_
 refine ws_next (pend' := []) hst (by kernel_rfl) pk_nil ?_
 refine ws_nil ?_
 intro w hst
 refine tn (wp_seq ?_)
 refine wp_region_St hst 10 [0, 1, 2, 3, 4, 5, 6, 7, 8, 9] [0, 0, 2, 6, 15, 0, 32, 127, 255, 511] [9] z (by kernel_rfl) (by kernel_rfl) Try.mixed (by kernel_rfl) ?_
 refine wsr (v634) 0 z z z (by kernel_rfl) (fun w hst => z) (wsr (Pt b605 3) 1 z z z (by kernel_rfl) (fun w hst => x_field z underlying46 z sizeOf44 z) (wsr (.float .f64 a1.Lo) 2 z z z (by kernel_rfl) (fun w hst => x_load z isAgg44 (hst.bc3 z)) (wsr (Pt b605 4) 5 z z z (by kernel_rfl) (fun w hst => x_field z underlying46 z sizeOf44 z) (wsr (.float .f64 a1.Hi) 6 z z z (by kernel_rfl) (fun w hst => x_load z isAgg44 (hst.bc3 z)) ?_))))
 refine ws_e1 3 (by kernel_rfl) ?_
 refine nxe [4, 7, 8, 9] (by kernel_rfl) z z ?_
 clear hst
 intro w hst
 obtain ⟨t636, ht637, hm⟩ := bind_some hm
 refine wec call61 [F6 a1.Lo] z z ?_
 refine (ref01_Rank_ref hst.to0 ht637).mono ?_
 rintro _ w638 ⟨rfl, hst⟩
 refine ⟨_, z, ?_⟩
 replace hst := hst.of0
 refine ws_next (pend' := [(6, F6 a1.Hi), (5, Pt b605 4), (0, v634)]) hst (by kernel_rfl) (pkr z z (fun w hst => x_load z isAgg44 (hst.bc3 z)) (pkr z z (fun w hst => x_field z underlying46 z sizeOf44 z) (pkr z z (fun w hst => z) pk_nil))) ?_
 refine ws_e1 4 (by kernel_rfl) ?_
 refine nxe [7, 8, 9] (by kernel_rfl) z z ?_
 clear hst
 intro w hst
 replace hst := hst.pull1
 obtain ⟨css641, hq642, hst⟩ := hst.own_open
 obtain ⟨t643, ht644, hm⟩ := bind_some hm
 refine wec call34 [v634, U6 t636, I6 (8:Int)] z z ?_
 refine (ref02_Num_ref (hst.rdrow0 hq642) hst.to0 ht644).mono ?_
 rintro _ w645 ⟨v648, rfl, hst⟩
 refine ⟨_, z, ?_⟩
 replace hst := hst.of1.pull1.own_close hq642
 refine ws_next (pend' := [(6, F6 a1.Hi), (5, Pt b605 4)]) hst (by kernel_rfl) (pkr z z (fun w hst => x_load z isAgg44 (hst.bc4 z)) (pkr z z (fun w hst => x_field z underlying46 z sizeOf44 z) pk_nil)) ?_
 refine ws_e1 7 (by kernel_rfl) ?_
 refine nxe [8, 9] (by kernel_rfl) z z ?_
 clear hst
 intro w hst
 obtain ⟨t650, ht651, hm⟩ := bind_some hm
 refine wec call61 [F6 a1.Hi] z z ?_
 refine (ref01_Rank_ref hst.to0 ht651).mono ?_
 rintro _ w652 ⟨rfl, hst⟩
 refine ⟨_, z, ?_⟩
 replace hst := hst.of0
 refine ws_next (pend' := []) hst (by kernel_rfl) pk_nil ?_
 refine ws_e1 8 (by kernel_rfl) ?_
 refine nxe [9] (by kernel_rfl) z z ?_
 clear hst
 intro w hst
 replace hst := hst.pull1
 obtain ⟨css655, hq656, hst⟩ := hst.own_open
 obtain ⟨t657, ht658, hm⟩ := bind_some hm
 refine wec call34 [v648, U6 t650, I6 (8:Int)] z z ?_
 refine (ref02_Num_ref (hst.rdrow0 hq656) hst.to0 ht658).mono ?_
 rintro _ w659 ⟨v662, rfl, hst⟩
 refine ⟨_, z, ?_⟩
 replace hst := hst.of1.pull1.own_close hq656
 refine ws_next (pend' := []) hst (by kernel_rfl) pk_nil ?_
 refine ws_e1 9 (by kernel_rfl) ?_
 refine nxe [] (by kernel_rfl) z z ?_
 clear hst
 intro w hst
 refine we_run (v := v662) (w' := w) z z ?_
 refine ws_next (pend' := []) hst (by kernel_rfl) pk_nil ?_
 refine ws_nil ?_
 intro w hst
 refine tn (wp_seq ?_)
 refine wp_region_St hst 9 [0, 1, 2, 3, 4, 5, 6, 7, 8] [0, 0, 2, 7, 0, 16, 48, 127, 255] [] z (by kernel_rfl) (by kernel_rfl) Try.mixed (by kernel_rfl) ?_
 refine wsr (v662) 0 z z z (by kernel_rfl) (fun w hst => z) (wsr (Pt b605 5) 1 z z z (by kernel_rfl) (fun w hst => x_field z underlying46 z sizeOf25 z) (wsr (.int .u64 a1.Authority) 2 z z z (by kernel_rfl) (fun w hst => x_load z isAgg25 (hst.bc5 z)) (wsr (Pt b605 6) 4 z z z (by kernel_rfl) (fun w hst => x_field z underlying46 z sizeOf3 z) (wsr (.int .i64 a1.Quota) 5 z z z (by kernel_rfl) (fun w hst => x_load z isAgg3 (hst.bc5 z)) (wsr (.int .u64 (u64.wrap a1.Quota)) 6 z z z (by kernel_rfl) (fun w hst => by kernel_rfl) ?_)))))
 refine ws_e1 3 (by kernel_rfl) ?_
 refine nxe [7, 8] (by kernel_rfl) z z ?_
 clear hst
 intro w hst
 replace hst := hst.pull1
 obtain ⟨css664, hq665, hst⟩ := hst.own_open
 obtain ⟨t666, ht667, hm⟩ := bind_some hm
 refine wec call34 [v662, U6 a1.Authority, I6 (8:Int)] z z ?_
 refine (ref02_Num_ref (hst.rdrow0 hq665) hst.to0 ht667).mono ?_
 rintro _ w668 ⟨v671, rfl, hst⟩
 refine ⟨_, z, ?_⟩
 replace hst := hst.of1.pull1.own_close hq665
 refine ws_next (pend' := [(6, U6 (u64.wrap a1.Quota)), (5, I6 a1.Quota), (4, Pt b605 6)]) hst (by kernel_rfl) (pkr z z (fun w hst => by kernel_rfl) (pkr z z (fun w hst => x_load z isAgg3 (hst.bc6 z)) (pkr z z (fun w hst => x_field z underlying46 z sizeOf3 z) pk_nil))) ?_
 refine ws_e1 7 (by kernel_rfl) ?_
 refine nxe [8] (by kernel_rfl) z z ?_
 clear hst
 intro w hst
 replace hst := hst.pull1
 obtain ⟨css673, hq674, hst⟩ := hst.own_open
 obtain ⟨t675, ht676, hm⟩ := bind_some hm
 refine wec call34 [v671, U6 (u64.wrap a1.Quota), I6 (4:Int)] z z ?_
 refine (ref02_Num_ref (hst.rdrow0 hq674) hst.to0 ht676).mono ?_
 rintro _ w677 ⟨v680, rfl, hst⟩
 refine ⟨_, z, ?_⟩
 replace hst := hst.of1.pull1.own_close hq674
 refine ws_next (pend' := []) hst (by kernel_rfl) pk_nil ?_
 refine wsr (v680) 8 z z z (by kernel_rfl) (fun w hst => z) ?_
 refine ws_nil ?_
 intro w hst
 refine tn (wp_ret ?_)
 obtain rfl := some_inj hm
 refine post_ret (vs := [v680]) results63 (rvs_cons (rv_tmp z) rvs_nil) ?_
 replace hst := hst.pull1
 exact ⟨v680, z, hst.keep1⟩
}

theorem ref13_Command_ref {w0 w : World} {I : HL} {R : SP} {a0 : api_Command} {r0_0 : Value} {r0_1 : Value} {r0_2 : Value} {r0_3 : Value} {r0_4 : Value} {r0_5 : Value} {r0_6 : Value} {r0_7 : Value} (f0_0 : Rd tyF64 R I r0_0 a0.Hold.Gets) (f0_1 : Rd tyF2 R I r0_1 a0.Hold.Scans) (f0_2 : Rd tyF64 R I r0_2 a0.Hold.Puts) (f0_3 : Rd (tyInt .u8) R I r0_3 a0.Hold.Data) (f0_4 : Rd ty_api_Write R I r0_4 a0.Writes) (f0_5 : Rd ty_api_Got R I r0_5 a0.R.Gots) (f0_6 : Rd (tySl ty_api_Pair) R I r0_6 a0.R.Scans) (f0_7 : Rd ty_api_Part R I r0_7 a0.Parts) (hst : St w0 w I [] R) {r : ((List Int))} (hm : ref13_Command a0 = some r) :
  Calls prog 39 #[.agg #[U1 a0.Kind, U6 a0.ID.Session, U6 a0.ID.Seq, U6 a0.Epoch, U6 a0.Index, I6 a0.E, U6 a0.Hold.ID.Session, U6 a0.Hold.ID.Seq, U6 a0.Hold.Epoch, r0_0, r0_1, r0_2, r0_3, r0_4, I6 a0.R.E, U6 a0.R.Epoch, U6 a0.R.Index, r0_5, r0_6, U6 a0.Shards, r0_7, U6 a0.Rule.ID, I6 a0.Rule.From, I6 a0.Rule.To, F6 a0.Rule.Lo, F6 a0.Rule.Hi, U6 a0.Rule.Authority, I6 a0.Rule.Quota, .bool a0.On]] w fun e w' => ∃ (q0_0 : Value), e = .returned (q0_0) ∧ St w0 w' I [ownS (tyInt .u8) q0_0 r] R := by {
 unfold ref13_Command at hm
 refine calls_start (args := [.agg #[U1 a0.Kind, U6 a0.ID.Session, U6 a0.ID.Seq, U6 a0.Epoch, U6 a0.Index, I6 a0.E, U6 a0.Hold.ID.Session, U6 a0.Hold.ID.Seq, U6 a0.Hold.Epoch, r0_0, r0_1, r0_2, r0_3, r0_4, I6 a0.R.E, U6 a0.R.Epoch, U6 a0.R.Index, r0_5, r0_6, U6 a0.Shards, r0_7, U6 a0.Rule.ID, I6 a0.Rule.From, I6 a0.Rule.To, F6 a0.Rule.Lo, F6 a0.Rule.Hi, U6 a0.Rule.Authority, I6 a0.Rule.Quota, .bool a0.On]]) func39 z ntmps39 (Nat.le_of_ble_eq_true z) ?_
 refine wp_seq (wrl ?_)
 obtain ⟨b598, w599, ew600, eb601, hst⟩ := hst.box [U1 a0.Kind, U6 a0.ID.Session, U6 a0.ID.Seq, U6 a0.Epoch, U6 a0.Index, I6 a0.E, U6 a0.Hold.ID.Session, U6 a0.Hold.ID.Seq, U6 a0.Hold.Epoch, r0_0, r0_1, r0_2, r0_3, r0_4, I6 a0.R.E, U6 a0.R.Epoch, U6 a0.R.Index, r0_5, r0_6, U6 a0.Shards, r0_7, U6 a0.Rule.ID, I6 a0.Rule.From, I6 a0.Rule.To, F6 a0.Rule.Lo, F6 a0.Rule.Hi, U6 a0.Rule.Authority, I6 a0.Rule.Quota, .bool a0.On] 48
 refine wl_run (v := Pt b598 0) (w' := w599) z z (x_al (by kernel_rfl) ew600 eb601) ?_
 refine wv ((.slice none 0 0)) z z z (wl_nil (tn (wp_seq (wrl (wv (Pt b598 0) z z (x_field z underlying48 z sizeOf5 z) (wv (.int .u8 a0.Kind) z z (x_load z isAgg5 (hst.bc0 z)) (wv (.int .u64 (u64.wrap a0.Kind)) z z (by kernel_rfl) ?_)))))))
 have f605 : Ro (tyInt .u8) I (.slice none 0 0) [] := ro_nil
 obtain ⟨t606, ht607, hm⟩ := bind_some hm
 refine wc call34 [Zs, U6 (u64.wrap a0.Kind), I6 (1:Int)] z z z ?_
 refine (ref02_Num_ref (f605.mono ro_rd) hst.to0 ht607).mono ?_
 rintro _ w608 ⟨v611, rfl, hst⟩
 refine ⟨_, z, ?_⟩
 replace hst := hst.of1
 refine wv (v611) z z z (wl_nil (tn (wp_seq (wp_seq (wrl (wv (Pt b598 0) z z (x_field z underlying48 z sizeOf5 z) (wv (.int .u8 a0.Kind) z z (x_load z isAgg5 (hst.bc1 z)) (wl_nil (tn (wp_block (wp_seq (wrl (wv (.bool (a0.Kind == (1:Int))) z z z (wv (.bool (a0.Kind == (1:Int))) z z z (wl_nil (tn ?_))))))))))))))))
 refine bsplit (a0.Kind == (1:Int)) (fun hc613 => ?_) (fun hc613 => ?_)
 {
 replace hm := bif_t hc613 hm
 refine wp_ift (cvb hc613) ?_
 refine wp_seq (wrl (wv (v611) z z z (wv (Pt b598 3) z z (x_field z underlying48 z sizeOf25 z) (wv (.int .u64 a0.Epoch) z z (x_load z isAgg25 (hst.bc1 z)) ?_))))
 obtain ⟨css614, hq615, hst⟩ := hst.own_open
 obtain ⟨t616, ht617, hm⟩ := bind_some hm
 refine wc call34 [v611, U6 a0.Epoch, I6 (8:Int)] z z z ?_
 refine (ref02_Num_ref (hst.rdrow0 hq615) hst.to0 ht617).mono ?_
 rintro _ w618 ⟨v621, rfl, hst⟩
 refine ⟨_, z, ?_⟩
 replace hst := hst.of1.pull1.own_close hq615
 refine wv (v621) z z z (wl_nil (tn (wp_ret (blk_r (then_r ?_)))))
 obtain rfl := some_inj hm
 refine post_ret (vs := [v621]) results39 (rvs_cons (rv_tmp z) rvs_nil) ?_
 replace hst := hst.pull1
 exact ⟨v621, z, hst.keep1⟩
}
 {
 replace hm := bif_f hc613 hm
 refine wp_iff (cvb hc613) ?_
 refine wp_seq (wrl (wv (.bool (a0.Kind == (2:Int))) z z z (wv (.bool (a0.Kind == (2:Int))) z z z (wl_nil (tn ?_)))))
 refine bsplit (a0.Kind == (2:Int)) (fun hc623 => ?_) (fun hc623 => ?_)
 {
 replace hm := bif_t hc623 hm
 refine wp_ift (cvb hc623) ?_
 refine wp_seq (wrl (wv (v611) z z z (wv (Pt b598 6) z z (x_field z underlying48 z sizeOf36 z) (wv (.agg #[U6 a0.Hold.ID.Session, U6 a0.Hold.ID.Seq, U6 a0.Hold.Epoch, r0_0, r0_1, r0_2, r0_3]) z z (x_loadN (cs := [U6 a0.Hold.ID.Session, U6 a0.Hold.ID.Seq, U6 a0.Hold.Epoch, r0_0, r0_1, r0_2, r0_3]) z isAgg36 sizeOf36 (hst.bcs1 6 z)) ?_))))
 obtain ⟨css624, hq625, hst⟩ := hst.own_open
 obtain ⟨t626, ht627, hm⟩ := bind_some hm
 refine wc call36 [v611, .agg #[U6 a0.Hold.ID.Session, U6 a0.Hold.ID.Seq, U6 a0.Hold.Epoch, r0_0, r0_1, r0_2, r0_3]] z z z ?_
 refine (ref12_Hold_ref (hst.rdrow0 hq625) (f0_0.mono (rd_weak _)) (f0_1.mono (rd_weak _)) (f0_2.mono (rd_weak _)) (f0_3.mono (rd_weak _)) hst.to0 ht627).mono ?_
 rintro _ w628 ⟨v631, rfl, hst⟩
 refine ⟨_, z, ?_⟩
 replace hst := hst.of1.pull1.own_close hq625
 refine wv (v631) z z z (wl_nil (tn (wp_ret (blk_r (then_r ?_)))))
 obtain rfl := some_inj hm
 refine post_ret (vs := [v631]) results39 (rvs_cons (rv_tmp z) rvs_nil) ?_
 replace hst := hst.pull1
 exact ⟨v631, z, hst.keep1⟩
}
 {
 replace hm := bif_f hc623 hm
 refine wp_iff (cvb hc623) ?_
 refine wp_seq (wrl (wv (.bool (a0.Kind == (3:Int))) z z z (wv (.bool (a0.Kind == (3:Int))) z z z (wl_nil (tn ?_)))))
 refine bsplit (a0.Kind == (3:Int)) (fun hc633 => ?_) (fun hc633 => ?_)
 {
 replace hm := bif_t hc633 hm
 refine wp_ift (cvb hc633) ?_
 refine wp_seq ?_
 refine wp_region_St hst 9 [0, 1, 2, 3, 4, 5, 6, 7, 8] [0, 0, 2, 7, 0, 16, 48, 127, 255] [8] z (by kernel_rfl) (by kernel_rfl) Try.mixed (by kernel_rfl) ?_
 refine wsr (v611) 0 z z z (by kernel_rfl) (fun w hst => z) (wsr (Pt b598 1) 1 z z z (by kernel_rfl) (fun w hst => x_field z underlying48 z sizeOf32 z) (wsr (.agg #[U6 a0.ID.Session, U6 a0.ID.Seq]) 2 z z z (by kernel_rfl) (fun w hst => x_loadN (cs := [U6 a0.ID.Session, U6 a0.ID.Seq]) z isAgg32 sizeOf32 (hst.bcs1 1 z)) (wsr (Pt b598 5) 4 z z z (by kernel_rfl) (fun w hst => x_field z underlying48 z sizeOf37 z) (wsr (.int .i64 a0.E) 5 z z z (by kernel_rfl) (fun w hst => x_load z isAgg37 (hst.bc1 z)) (wsr (.int .u64 (u64.wrap a0.E)) 6 z z z (by kernel_rfl) (fun w hst => by kernel_rfl) ?_)))))
 refine ws_e1 3 (by kernel_rfl) ?_
 refine nxe [7, 8] (by kernel_rfl) z z ?_
 clear hst
 intro w hst
 obtain ⟨css634, hq635, hst⟩ := hst.own_open
 obtain ⟨t636, ht637, hm⟩ := bind_some hm
 refine wec call40 [v611, .agg #[U6 a0.ID.Session, U6 a0.ID.Seq]] z z ?_
 refine (ref12_ID_ref (hst.rdrow0 hq635) hst.to0 ht637).mono ?_
 rintro _ w638 ⟨v641, rfl, hst⟩
 refine ⟨_, z, ?_⟩
 replace hst := hst.of1.pull1.own_close hq635
 refine ws_next (pend' := [(6, U6 (u64.wrap a0.E)), (5, I6 a0.E), (4, Pt b598 5)]) hst (by kernel_rfl) (pkr z z (fun w hst => by kernel_rfl) (pkr z z (fun w hst => x_load z isAgg37 (hst.bc2 z)) (pkr z z (fun w hst => x_field z underlying48 z sizeOf37 z) pk_nil))) ?_
 refine ws_e1 7 (by kernel_rfl) ?_
 refine nxe [8] (by kernel_rfl) z z ?_
 clear hst
 intro w hst
 replace hst := hst.pull1
 obtain ⟨css643, hq644, hst⟩ := hst.own_open
 obtain ⟨t645, ht646, hm⟩ := bind_some hm
 refine wec call34 [v641, U6 (u64.wrap a0.E), I6 (1:Int)] z z ?_
 refine (ref02_Num_ref (hst.rdrow0 hq644) hst.to0 ht646).mono ?_
 rintro _ w647 ⟨v650, rfl, hst⟩
 refine ⟨_, z, ?_⟩
 replace hst := hst.of1.pull1.own_close hq644
 refine ws_next (pend' := []) hst (by kernel_rfl) pk_nil ?_
 refine ws_e1 8 (by kernel_rfl) ?_
 refine nxe [] (by kernel_rfl) z z ?_
 clear hst
 intro w hst
 refine we_run (v := v650) (w' := w) z z ?_
 refine ws_next (pend' := []) hst (by kernel_rfl) pk_nil ?_
 refine ws_nil ?_
 intro w hst
 refine tn (wp_seq ?_)
 refine wp_region_St hst 11 [0, 1, 2, 3, 4, 5, 6, 7, 8, 9, 10] [0, 0, 2, 7, 0, 16, 63, 0, 128, 511, 1023] [] z (by kernel_rfl) (by kernel_rfl) Try.mixed (by kernel_rfl) ?_
 refine wsr (v650) 0 z z z (by kernel_rfl) (fun w hst => z) (wsr (Pt b598 3) 1 z z z (by kernel_rfl) (fun w hst => x_field z underlying48 z sizeOf25 z) (wsr (.int .u64 a0.Epoch) 2 z z z (by kernel_rfl) (fun w hst => x_load z isAgg25 (hst.bc3 z)) (wsr (Pt b598 4) 4 z z z (by kernel_rfl) (fun w hst => x_field z underlying48 z sizeOf25 z) (wsr (.int .u64 a0.Index) 5 z z z (by kernel_rfl) (fun w hst => x_load z isAgg25 (hst.bc3 z)) (wsr (Pt b598 13) 7 z z z (by kernel_rfl) (fun w hst => x_field z underlying48 z sizeOf42 z) (wsr (r0_4) 8 z z z (by kernel_rfl) (fun w hst => x_load z isAgg42 (hst.bc3 z)) ?_))))))
 refine ws_e1 3 (by kernel_rfl) ?_
 refine nxe [6, 9, 10] (by kernel_rfl) z z ?_
 clear hst
 intro w hst
 replace hst := hst.pull1
 obtain ⟨css652, hq653, hst⟩ := hst.own_open
 obtain ⟨t654, ht655, hm⟩ := bind_some hm
 refine wec call34 [v650, U6 a0.Epoch, I6 (8:Int)] z z ?_
 refine (ref02_Num_ref (hst.rdrow0 hq653) hst.to0 ht655).mono ?_
 rintro _ w656 ⟨v659, rfl, hst⟩
 refine ⟨_, z, ?_⟩
 replace hst := hst.of1.pull1.own_close hq653
 refine ws_next (pend' := [(8, r0_4), (7, Pt b598 13), (5, U6 a0.Index), (4, Pt b598 4)]) hst (by kernel_rfl) (pkr z z (fun w hst => x_load z isAgg42 (hst.bc4 z)) (pkr z z (fun w hst => x_field z underlying48 z sizeOf42 z) (pkr z z (fun w hst => x_load z isAgg25 (hst.bc4 z)) (pkr z z (fun w hst => x_field z underlying48 z sizeOf25 z) pk_nil)))) ?_
 refine ws_e1 6 (by kernel_rfl) ?_
 refine nxe [9, 10] (by kernel_rfl) z z ?_
 clear hst
 intro w hst
 replace hst := hst.pull1
 obtain ⟨css661, hq662, hst⟩ := hst.own_open
 obtain ⟨t663, ht664, hm⟩ := bind_some hm
 refine wec call34 [v659, U6 a0.Index, I6 (8:Int)] z z ?_
 refine (ref02_Num_ref (hst.rdrow0 hq662) hst.to0 ht664).mono ?_
 rintro _ w665 ⟨v668, rfl, hst⟩
 refine ⟨_, z, ?_⟩
 replace hst := hst.of1.pull1.own_close hq662
 refine ws_next (pend' := [(8, r0_4), (7, Pt b598 13)]) hst (by kernel_rfl) (pkr z z (fun w hst => x_load z isAgg42 (hst.bc5 z)) (pkr z z (fun w hst => x_field z underlying48 z sizeOf42 z) pk_nil)) ?_
 refine ws_e1 9 (by kernel_rfl) ?_
 refine nxe [10] (by kernel_rfl) z z ?_
 clear hst
 intro w hst
 replace hst := hst.pull1
 obtain ⟨css670, hq671, hst⟩ := hst.own_open
 obtain ⟨t672, ht673, hm⟩ := bind_some hm
 refine wec call62 [v668, r0_4] z z ?_
 refine (ref13_Writes_ref (hst.rdrow0 hq671) (f0_4.mono (rd_weak _)) hst.to0 ht673).mono ?_
 rintro _ w674 ⟨v677, rfl, hst⟩
 refine ⟨_, z, ?_⟩
 replace hst := hst.of1.pull1.own_close hq671
 refine ws_next (pend' := []) hst (by kernel_rfl) pk_nil ?_
 refine wsr (v677) 10 z z z (by kernel_rfl) (fun w hst => z) ?_
 refine ws_nil ?_
 intro w hst
 refine tn (wp_ret (blk_r (then_r ?_)))
 obtain rfl := some_inj hm
 refine post_ret (vs := [v677]) results39 (rvs_cons (rv_tmp z) rvs_nil) ?_
 replace hst := hst.pull1
 exact ⟨v677, z, hst.keep1⟩
}
 {
 replace hm := bif_f hc633 hm
 refine wp_iff (cvb hc633) ?_
 refine wp_seq (wrl (wv (.bool (a0.Kind == (4:Int))) z z z (wv (.bool (a0.Kind == (4:Int))) z z z (wl_nil (tn ?_)))))
 refine bsplit (a0.Kind == (4:Int)) (fun hc679 => ?_) (fun hc679 => ?_)
 {
 replace hm := bif_t hc679 hm
 refine wp_ift (cvb hc679) ?_
 refine wp_seq ?_
 refine wp_region_St hst 8 [0, 1, 2, 3, 4, 5, 6, 7] [0, 0, 2, 7, 0, 16, 63, 127] [7] z (by kernel_rfl) (by kernel_rfl) Try.mixed (by kernel_rfl) ?_
 refine wsr (v611) 0 z z z (by kernel_rfl) (fun w hst => z) (wsr (Pt b598 1) 1 z z z (by kernel_rfl) (fun w hst => x_field z underlying48 z sizeOf32 z) (wsr (.agg #[U6 a0.ID.Session, U6 a0.ID.Seq]) 2 z z z (by kernel_rfl) (fun w hst => x_loadN (cs := [U6 a0.ID.Session, U6 a0.ID.Seq]) z isAgg32 sizeOf32 (hst.bcs1 1 z)) (wsr (Pt b598 3) 4 z z z (by kernel_rfl) (fun w hst => x_field z underlying48 z sizeOf25 z) (wsr (.int .u64 a0.Epoch) 5 z z z (by kernel_rfl) (fun w hst => x_load z isAgg25 (hst.bc1 z)) ?_))))
 refine ws_e1 3 (by kernel_rfl) ?_
 refine nxe [6, 7] (by kernel_rfl) z z ?_
 clear hst
 intro w hst
 obtain ⟨css680, hq681, hst⟩ := hst.own_open
 obtain ⟨t682, ht683, hm⟩ := bind_some hm
 refine wec call40 [v611, .agg #[U6 a0.ID.Session, U6 a0.ID.Seq]] z z ?_
 refine (ref12_ID_ref (hst.rdrow0 hq681) hst.to0 ht683).mono ?_
 rintro _ w684 ⟨v687, rfl, hst⟩
 refine ⟨_, z, ?_⟩
 replace hst := hst.of1.pull1.own_close hq681
 refine ws_next (pend' := [(5, U6 a0.Epoch), (4, Pt b598 3)]) hst (by kernel_rfl) (pkr z z (fun w hst => x_load z isAgg25 (hst.bc2 z)) (pkr z z (fun w hst => x_field z underlying48 z sizeOf25 z) pk_nil)) ?_
 refine ws_e1 6 (by kernel_rfl) ?_
 refine nxe [7] (by kernel_rfl) z z ?_
 clear hst
 intro w hst
 replace hst := hst.pull1
 obtain ⟨css689, hq690, hst⟩ := hst.own_open
 obtain ⟨t691, ht692, hm⟩ := bind_some hm
 refine wec call34 [v687, U6 a0.Epoch, I6 (8:Int)] z z ?_
 refine (ref02_Num_ref (hst.rdrow0 hq690) hst.to0 ht692).mono ?_
 rintro _ w693 ⟨v696, rfl, hst⟩
 refine ⟨_, z, ?_⟩
 replace hst := hst.of1.pull1.own_close hq690
 refine ws_next (pend' := []) hst (by kernel_rfl) pk_nil ?_
 refine ws_e1 7 (by kernel_rfl) ?_
 refine nxe [] (by kernel_rfl) z z ?_
 clear hst
 intro w hst
 refine we_run (v := v696) (w' := w) z z ?_
 refine ws_next (pend' := []) hst (by kernel_rfl) pk_nil ?_
 refine ws_nil ?_
 intro w hst
 refine tn (wp_seq ?_)
 refine wp_region_St hst 10 [0, 1, 2, 3, 4, 5, 6, 7, 8, 9] [0, 0, 2, 7, 0, 16, 48, 112, 255, 511] [9] z (by kernel_rfl) (by kernel_rfl) Try.mixed (by kernel_rfl) ?_
 refine wsr (v696) 0 z z z (by kernel_rfl) (fun w hst => z) (wsr (Pt b598 19) 1 z z z (by kernel_rfl) (fun w hst => x_field z underlying48 z sizeOf25 z) (wsr (.int .u64 a0.Shards) 2 z z z (by kernel_rfl) (fun w hst => x_load z isAgg25 (hst.bc3 z)) (wsr (Pt b598 20) 4 z z z (by kernel_rfl) (fun w hst => x_field z underlying48 z sizeOf43 z) (wsr (r0_7) 5 z z z (by kernel_rfl) (fun w hst => x_load z isAgg43 (hst.bc3 z)) (wsr (.int .i64 ((a0.Parts).length : Int)) 6 z z z (by kernel_rfl) (fun w hst => x_len z underlying43 (rd_sliceV f0_7)) (wsr (.int .u64 (u64.wrap ((a0.Parts).length : Int))) 7 z z z (by kernel_rfl) (fun w hst => by kernel_rfl) ?_))))))
 refine ws_e1 3 (by kernel_rfl) ?_
 refine nxe [8, 9] (by kernel_rfl) z z ?_
 clear hst
 intro w hst
 replace hst := hst.pull1
 obtain ⟨css698, hq699, hst⟩ := hst.own_open
 obtain ⟨t700, ht701, hm⟩ := bind_some hm
 refine wec call34 [v696, U6 a0.Shards, I6 (2:Int)] z z ?_
 refine (ref02_Num_ref (hst.rdrow0 hq699) hst.to0 ht701).mono ?_
 rintro _ w702 ⟨v705, rfl, hst⟩
 refine ⟨_, z, ?_⟩
 replace hst := hst.of1.pull1.own_close hq699
 refine ws_next (pend' := [(7, U6 (u64.wrap ((a0.Parts).length : Int))), (6, I6 ((a0.Parts).length : Int)), (5, r0_7), (4, Pt b598 20)]) hst (by kernel_rfl) (pkr z z (fun w hst => by kernel_rfl) (pkr z z (fun w hst => x_len z underlying43 (rd_sliceV f0_7)) (pkr z z (fun w hst => x_load z isAgg43 (hst.bc4 z)) (pkr z z (fun w hst => x_field z underlying48 z sizeOf43 z) pk_nil)))) ?_
 refine ws_e1 8 (by kernel_rfl) ?_
 refine nxe [9] (by kernel_rfl) z z ?_
 clear hst
 intro w hst
 replace hst := hst.pull1
 obtain ⟨css707, hq708, hst⟩ := hst.own_open
 obtain ⟨t709, ht710, hm⟩ := bind_some hm
 refine wec call34 [v705, U6 (u64.wrap ((a0.Parts).length : Int)), I6 (4:Int)] z z ?_
 refine (ref02_Num_ref (hst.rdrow0 hq708) hst.to0 ht710).mono ?_
 rintro _ w711 ⟨v714, rfl, hst⟩
 refine ⟨_, z, ?_⟩
 replace hst := hst.of1.pull1.own_close hq708
 refine ws_next (pend' := []) hst (by kernel_rfl) pk_nil ?_
 refine ws_e1 9 (by kernel_rfl) ?_
 refine nxe [] (by kernel_rfl) z z ?_
 clear hst
 intro w hst
 refine we_run (v := v714) (w' := w) z z ?_
 refine ws_next (pend' := []) hst (by kernel_rfl) pk_nil ?_
 refine ws_nil ?_
 intro w hst
 refine tn ?_
 obtain ⟨y827, hm, hx828⟩ := bind_some hm
 refine wp_cut (fun a w => ∃ (z824 : (List Int)) (v823 : Value) (σ825 : Nat → Value), (ref13_Command_j0 a0) z824 = some r ∧ a = Fr 123 (upd (upd σ825 1 (Pt b598 0)) 3 (v823)) ∧ St w0 w I [cells b598 [U1 a0.Kind, U6 a0.ID.Session, U6 a0.ID.Seq, U6 a0.Epoch, U6 a0.Index, I6 a0.E, U6 a0.Hold.ID.Session, U6 a0.Hold.ID.Seq, U6 a0.Hold.Epoch, r0_0, r0_1, r0_2, r0_3, r0_4, I6 a0.R.E, U6 a0.R.Epoch, U6 a0.R.Index, r0_5, r0_6, U6 a0.Shards, r0_7, U6 a0.Rule.ID, I6 a0.Rule.From, I6 a0.Rule.To, F6 a0.Rule.Lo, F6 a0.Rule.Hi, U6 a0.Rule.Authority, I6 a0.Rule.Quota, .bool a0.On], ownS (tyInt .u8) v823 z824] R) ?_ ?_
 {
 refine wp_seq (wrl (wv (.int .i64 (0:Int)) z z z (wl_nil (tn (wp_block ?_)))))
 replace hst := hst.sub.pull1.sub.pull1.sub.pull1.sub
 obtain ⟨n785, hm⟩ := loopO_some hm
 refine wp_loop_n (fun n a w => ∃ (z780 : (List Int)) (z783 : Int) (v781 : Value) (σ784 : Nat → Value), loopN (ref13_Command_l1 a0) n (z780, z783) = some y827 ∧ a = Fr 123 (upd (upd (upd σ784 1 (Pt b598 0)) 3 (v781)) 4 (.int .i64 z783)) ∧ St w0 w I [ownS (tyInt .u8) v781 z780, cells b598 [U1 a0.Kind, U6 a0.ID.Session, U6 a0.ID.Seq, U6 a0.Epoch, U6 a0.Index, I6 a0.E, U6 a0.Hold.ID.Session, U6 a0.Hold.ID.Seq, U6 a0.Hold.Epoch, r0_0, r0_1, r0_2, r0_3, r0_4, I6 a0.R.E, U6 a0.R.Epoch, U6 a0.R.Index, r0_5, r0_6, U6 a0.Shards, r0_7, U6 a0.Rule.ID, I6 a0.Rule.From, I6 a0.Rule.To, F6 a0.Rule.Lo, F6 a0.Rule.Hi, U6 a0.Rule.Authority, I6 a0.Rule.Quota, .bool a0.On]] R) n785 ⟨t709, (0:Int), v714, _, hm, (fu 1 (Pt b598 0) z (fu 3 v714 z (fu 4 (.int .i64 (0:Int)) z z))), hst⟩ ?_
 rintro n791 _ w786 ⟨z780, z783, v781, σ784, hm, rfl, hst⟩
 obtain ⟨n788, y789, rfl, hm, hx790⟩ := loopN_some hm
 dsimp only [ref13_Command_l1] at hm
 refine wp_seq (wp_seq (wrl (wv (.int .i64 z783) z z z (wv (Pt b598 20) z z (x_field z underlying48 z sizeOf43 z) (wv (r0_7) z z (x_load z isAgg43 (hst.bc1 z)) (wv (.int .i64 ((a0.Parts).length : Int)) z z (x_len z underlying43 (rd_sliceV f0_7)) (wv (.bool (decide (z783 < ((a0.Parts).length : Int)))) z z z (wl_nil (tn ?_)))))))))
 refine bsplit (decide (z783 < ((a0.Parts).length : Int))) (fun hc792 => ?_) (fun hc792 => ?_)
 {
 replace hm := bif_t hc792 hm
 refine wp_ift (cvb hc792) ?_
 refine wp_skip (tn (wp_seq (wp_block ?_)))
 refine wp_region_St hst 17 [0, 1, 2, 3, 4, 5, 6, 7, 8, 9, 10, 11, 12, 13, 14, 15, 16] [0, 0, 2, 0, 14, 30, 62, 126, 255, 0, 512, 0, 3584, 7680, 15872, 32767, 65535] [16] z (by kernel_rfl) (by kernel_rfl) Try.mixed (by kernel_rfl) ?_
 refine wsr (v781) 0 z z z (by kernel_rfl) (fun w hst => z) (wsr (Pt b598 20) 1 z z z (by kernel_rfl) (fun w hst => x_field z underlying48 z sizeOf43 z) (wsr (r0_7) 2 z z z (by kernel_rfl) (fun w hst => x_load z isAgg43 (hst.bc1 z)) (wsr (.int .i64 z783) 3 z z z (by kernel_rfl) (fun w hst => z) ?_)))
 obtain ⟨x793, hx794, hm⟩ := bind_some hm
 obtain ⟨h795, h796, hi797⟩ := geto_some hx794
 refine wsr (.pointer (some (eAddr r0_7 (z783.toNat * 2 + 0)))) 4 z z z (by kernel_rfl) (fun w hst => x_index z z underlying43 sizeOf110 (rd_sliceV f0_7) h795 h796) (wsr (.pointer (some (eAddr r0_7 (z783.toNat * 2 + 0)))) 5 z z z (by kernel_rfl) (fun w hst => x_field_e z underlying110 z sizeOf3 z) ?_)
 obtain ⟨cs798, hr799, hc800⟩ := Rd.getF f0_7 hi797
 obtain ⟨v801, rfl, f802, -⟩ := hr799
 refine wsr (.int .i64 x793.Shard) 6 z z z (by kernel_rfl) (fun w hst => x_load z isAgg3 ((hc800 (HL.le.refl _) hst) 0 _ z)) (wsr (.int .u64 (u64.wrap x793.Shard)) 7 z z z (by kernel_rfl) (fun w hst => by kernel_rfl) (wsr (Pt b598 20) 9 z z z (by kernel_rfl) (fun w hst => x_field z underlying48 z sizeOf43 z) (wsr (r0_7) 10 z z z (by kernel_rfl) (fun w hst => x_load z isAgg43 (hst.bc1 z)) (wsr (.int .i64 z783) 11 z z z (by kernel_rfl) (fun w hst => z) (wsr (.pointer (some (eAddr r0_7 (z783.toNat * 2 + 0)))) 12 z z z (by kernel_rfl) (fun w hst => x_index z z underlying43 sizeOf110 (rd_sliceV f0_7) h795 h796) (wsr (.pointer (some (eAddr r0_7 (z783.toNat * 2 + 1)))) 13 z z z (by kernel_rfl) (fun w hst => x_field_e z underlying110 z sizeOf42 z) (wsr (v801) 14 z z z (by kernel_rfl) (fun w hst => x_load z isAgg42 ((hc800 (HL.le.refl _) hst) 1 _ z)) ?_)))))))
 refine ws_e1 8 (by kernel_rfl) ?_
 refine nxe [15, 16] (by kernel_rfl) z z ?_
 clear hst
 intro w hst
 obtain ⟨css804, hq805, hst⟩ := hst.own_open
 obtain ⟨t806, ht807, hm⟩ := bind_some hm
 refine wec call34 [v781, U6 (u64.wrap x793.Shard), I6 (1:Int)] z z ?_
 refine (ref02_Num_ref (hst.rdrow0 hq805) hst.to0 ht807).mono ?_
 rintro _ w808 ⟨v811, rfl, hst⟩
 refine ⟨_, z, ?_⟩
 replace hst := hst.of1.pull1.own_close hq805
 refine ws_next (pend' := [(14, v801), (13, .pointer (some (eAddr r0_7 (z783.toNat * 2 + 1)))), (12, .pointer (some (eAddr r0_7 (z783.toNat * 2 + 0)))), (11, I6 z783), (10, r0_7), (9, Pt b598 20)]) hst (by kernel_rfl) (pkr z z (fun w hst => x_load z isAgg42 ((hc800 (HL.le.refl _) hst) 1 _ z)) (pkr z z (fun w hst => x_field_e z underlying110 z sizeOf42 z) (pkr z z (fun w hst => x_index z z underlying43 sizeOf110 (rd_sliceV f0_7) h795 h796) (pkr z z (fun w hst => z) (pkr z z (fun w hst => x_load z isAgg43 (hst.bc2 z)) (pkr z z (fun w hst => x_field z underlying48 z sizeOf43 z) pk_nil)))))) ?_
 refine ws_e1 15 (by kernel_rfl) ?_
 refine nxe [16] (by kernel_rfl) z z ?_
 clear hst
 intro w hst
 replace hst := hst.pull1
 obtain ⟨css813, hq814, hst⟩ := hst.own_open
 obtain ⟨t815, ht816, hm⟩ := bind_some hm
 refine wec call62 [v811, v801] z z ?_
 refine (ref13_Writes_ref (hst.rdrow0 hq814) (f802.mono (rd_weak _)) hst.to0 ht816).mono ?_
 rintro _ w817 ⟨v820, rfl, hst⟩
 refine ⟨_, z, ?_⟩
 replace hst := hst.of1.pull1.own_close hq814
 refine ws_next (pend' := []) hst (by kernel_rfl) pk_nil ?_
 refine ws_e1 16 (by kernel_rfl) ?_
 refine nxe [] (by kernel_rfl) z z ?_
 clear hst
 intro w hst
 refine we_run (v := v820) (w' := w) z z ?_
 refine ws_next (pend' := []) hst (by kernel_rfl) pk_nil ?_
 refine ws_nil ?_
 intro w hst
 refine blk_n (tn (wrl ?_))
 refine wv (.int .i64 z783) z z z (wv (.int .i64 (i64.wrap (z783 + (1:Int)))) z z z (wv (.int .i64 (i64.wrap (z783 + (1:Int)))) z z z (wl_nil (tn ?_))))
 replace hst := hst.pull3.pull2.keep2
 obtain rfl := some_inj hm
 exact ⟨_, Nat.lt_succ_self _, t815, (i64.wrap (z783 + (1:Int))), v820, _, hx790, (fu 1 (Pt b598 0) z (fu 3 v820 z (fu 4 (.int .i64 (i64.wrap (z783 + (1:Int)))) z z))), hst⟩
}
 {
 replace hm := bif_f hc792 hm
 refine wp_iff (cvb hc792) ?_
 refine wp_exit (then_x (then_x ?_))
 replace hm := inr_up hm hx790
 refine blk_x (tn ?_)
 replace hst := hst.pull1.keep2
 obtain rfl := some_inj hm
 exact ⟨z780, v781, _, hx828, (fu 1 (Pt b598 0) z (fu 3 v781 z z)), hst⟩
}
}
 {
 clear hst
 rintro _ w829 ⟨z824, v823, σ825, hm, rfl, hst⟩
 dsimp only [ref13_Command_j0] at hm
 refine wp_seq (wrl (wv (v823) z z z (wv (Pt b598 14) z z (x_field z underlying48 z sizeOf41 z) (wv (.agg #[I6 a0.R.E, U6 a0.R.Epoch, U6 a0.R.Index, r0_5, r0_6]) z z (x_loadN (cs := [I6 a0.R.E, U6 a0.R.Epoch, U6 a0.R.Index, r0_5, r0_6]) z isAgg41 sizeOf41 (hst.bcs0 14 z)) ?_))))
 replace hst := hst.pull1
 obtain ⟨css830, hq831, hst⟩ := hst.own_open
 obtain ⟨t832, ht833, hm⟩ := bind_some hm
 refine wc call37 [v823, .agg #[I6 a0.R.E, U6 a0.R.Epoch, U6 a0.R.Index, r0_5, r0_6]] z z z ?_
 refine (ref13_Reply_ref (hst.rdrow0 hq831) (f0_5.mono (rd_weak _)) (f0_6.mono (rd_weak _)) hst.to0 ht833).mono ?_
 rintro _ w834 ⟨v837, rfl, hst⟩
 refine ⟨_, z, ?_⟩
 replace hst := hst.of1.pull1.own_close hq831
 refine wv (v837) z z z (wl_nil (tn (wp_ret (blk_r (then_r ?_)))))
 obtain rfl := some_inj hm
 refine post_ret (vs := [v837]) results39 (rvs_cons (rv_tmp z) rvs_nil) ?_
 replace hst := hst.pull1
 exact ⟨v837, z, hst.keep1⟩
}
}
 {
 replace hm := bif_f hc679 hm
 refine wp_iff (cvb hc679) ?_
 refine wp_seq (wrl (wv (.bool (a0.Kind == (5:Int))) z z z (wv (.bool (a0.Kind == (5:Int))) z z z (wl_nil (tn ?_)))))
 refine bsplit (a0.Kind == (5:Int)) (fun hc839 => ?_) (fun hc839 => ?_)
 {
 replace hm := bif_t hc839 hm
 refine wp_ift (cvb hc839) ?_
 refine wp_seq (wrl (wv (v611) z z z (wv (Pt b598 1) z z (x_field z underlying48 z sizeOf32 z) (wv (.agg #[U6 a0.ID.Session, U6 a0.ID.Seq]) z z (x_loadN (cs := [U6 a0.ID.Session, U6 a0.ID.Seq]) z isAgg32 sizeOf32 (hst.bcs1 1 z)) ?_))))
 obtain ⟨css840, hq841, hst⟩ := hst.own_open
 obtain ⟨t842, ht843, hm⟩ := bind_some hm
 refine wc call40 [v611, .agg #[U6 a0.ID.Session, U6 a0.ID.Seq]] z z z ?_
 refine (ref12_ID_ref (hst.rdrow0 hq841) hst.to0 ht843).mono ?_
 rintro _ w844 ⟨v847, rfl, hst⟩
 refine ⟨_, z, ?_⟩
 replace hst := hst.of1.pull1.own_close hq841
 refine wv (v847) z z z (wl_nil (tn (wp_ret (blk_r (then_r ?_)))))
 obtain rfl := some_inj hm
 refine post_ret (vs := [v847]) results39 (rvs_cons (rv_tmp z) rvs_nil) ?_
 replace hst := hst.pull1
 exact ⟨v847, z, hst.keep1⟩
}
 {
 replace hm := bif_f hc839 hm
 refine wp_iff (cvb hc839) ?_
 refine wp_seq (wrl (wv (.bool (a0.Kind == (6:Int))) z z z (wv (.bool (a0.Kind == (6:Int))) z z z (wl_nil (tn ?_)))))
 refine bsplit (a0.Kind == (6:Int)) (fun hc849 => ?_) (fun hc849 => ?_)
 {
 replace hm := bif_t hc849 hm
 refine wp_ift (cvb hc849) ?_
 refine wp_seq ?_
 refine wp_region_St hst 8 [0, 1, 2, 3, 4, 5, 6, 7] [0, 0, 2, 7, 0, 16, 63, 127] [] z (by kernel_rfl) (by kernel_rfl) Try.mixed (by kernel_rfl) ?_
 refine wsr (v611) 0 z z z (by kernel_rfl) (fun w hst => z) (wsr (Pt b598 21) 1 z z z (by kernel_rfl) (fun w hst => x_field z underlying48 z sizeOf46 z) (wsr (.agg #[U6 a0.Rule.ID, I6 a0.Rule.From, I6 a0.Rule.To, F6 a0.Rule.Lo, F6 a0.Rule.Hi, U6 a0.Rule.Authority, I6 a0.Rule.Quota]) 2 z z z (by kernel_rfl) (fun w hst => x_loadN (cs := [U6 a0.Rule.ID, I6 a0.Rule.From, I6 a0.Rule.To, F6 a0.Rule.Lo, F6 a0.Rule.Hi, U6 a0.Rule.Authority, I6 a0.Rule.Quota]) z isAgg46 sizeOf46 (hst.bcs1 21 z)) (wsr (Pt b598 28) 4 z z z (by kernel_rfl) (fun w hst => x_field z underlying48 z sizeOf4 z) (wsr (.bool a0.On) 5 z z z (by kernel_rfl) (fun w hst => x_load z isAgg4 (hst.bc1 z)) ?_))))
 refine ws_e1 3 (by kernel_rfl) ?_
 refine nxe [6, 7] (by kernel_rfl) z z ?_
 clear hst
 intro w hst
 obtain ⟨css850, hq851, hst⟩ := hst.own_open
 obtain ⟨t852, ht853, hm⟩ := bind_some hm
 refine wec call63 [v611, .agg #[U6 a0.Rule.ID, I6 a0.Rule.From, I6 a0.Rule.To, F6 a0.Rule.Lo, F6 a0.Rule.Hi, U6 a0.Rule.Authority, I6 a0.Rule.Quota]] z z ?_
 refine (ref13_Rule_ref (hst.rdrow0 hq851) hst.to0 ht853).mono ?_
 rintro _ w854 ⟨v857, rfl, hst⟩
 refine ⟨_, z, ?_⟩
 replace hst := hst.of1.pull1.own_close hq851
 refine ws_next (pend' := [(5, .bool a0.On), (4, Pt b598 28)]) hst (by kernel_rfl) (pkr z z (fun w hst => x_load z isAgg4 (hst.bc2 z)) (pkr z z (fun w hst => x_field z underlying48 z sizeOf4 z) pk_nil)) ?_
 refine ws_e1 6 (by kernel_rfl) ?_
 refine nxe [7] (by kernel_rfl) z z ?_
 clear hst
 intro w hst
 replace hst := hst.pull1
 obtain ⟨css859, hq860, hst⟩ := hst.own_open
 obtain ⟨t861, ht862, hm⟩ := bind_some hm
 refine wec call60 [v857, .bool a0.On] z z ?_
 refine (ref02_Flag_ref (hst.rdrow0 hq860) hst.to0 ht862).mono ?_
 rintro _ w863 ⟨v866, rfl, hst⟩
 refine ⟨_, z, ?_⟩
 replace hst := hst.of1.pull1.own_close hq860
 refine ws_next (pend' := []) hst (by kernel_rfl) pk_nil ?_
 refine wsr (v866) 7 z z z (by kernel_rfl) (fun w hst => z) ?_
 refine ws_nil ?_
 intro w hst
 refine tn (wp_ret (blk_r (then_r ?_)))
 obtain rfl := some_inj hm
 refine post_ret (vs := [v866]) results39 (rvs_cons (rv_tmp z) rvs_nil) ?_
 replace hst := hst.pull1
 exact ⟨v866, z, hst.keep1⟩
}
 {
 replace hm := bif_f hc849 hm
 refine wp_iff (cvb hc849) ?_
 refine wp_seq (wrl (wv (.bool (a0.Kind == (7:Int))) z z z (wv (.bool (a0.Kind == (7:Int))) z z z (wl_nil (tn ?_)))))
 refine bsplit (a0.Kind == (7:Int)) (fun hc868 => ?_) (fun hc868 => ?_)
 {
 replace hm := bif_t hc868 hm
 refine wp_ift (cvb hc868) ?_
 refine wp_seq ?_
 refine wp_region_St hst 8 [0, 1, 2, 3, 4, 5, 6, 7] [0, 0, 2, 7, 0, 16, 63, 127] [7] z (by kernel_rfl) (by kernel_rfl) Try.mixed (by kernel_rfl) ?_
 refine wsr (v611) 0 z z z (by kernel_rfl) (fun w hst => z) (wsr (Pt b598 1) 1 z z z (by kernel_rfl) (fun w hst => x_field z underlying48 z sizeOf32 z) (wsr (.agg #[U6 a0.ID.Session, U6 a0.ID.Seq]) 2 z z z (by kernel_rfl) (fun w hst => x_loadN (cs := [U6 a0.ID.Session, U6 a0.ID.Seq]) z isAgg32 sizeOf32 (hst.bcs1 1 z)) (wsr (Pt b598 3) 4 z z z (by kernel_rfl) (fun w hst => x_field z underlying48 z sizeOf25 z) (wsr (.int .u64 a0.Epoch) 5 z z z (by kernel_rfl) (fun w hst => x_load z isAgg25 (hst.bc1 z)) ?_))))
 refine ws_e1 3 (by kernel_rfl) ?_
 refine nxe [6, 7] (by kernel_rfl) z z ?_
 clear hst
 intro w hst
 obtain ⟨css869, hq870, hst⟩ := hst.own_open
 obtain ⟨t871, ht872, hm⟩ := bind_some hm
 refine wec call40 [v611, .agg #[U6 a0.ID.Session, U6 a0.ID.Seq]] z z ?_
 refine (ref12_ID_ref (hst.rdrow0 hq870) hst.to0 ht872).mono ?_
 rintro _ w873 ⟨v876, rfl, hst⟩
 refine ⟨_, z, ?_⟩
 replace hst := hst.of1.pull1.own_close hq870
 refine ws_next (pend' := [(5, U6 a0.Epoch), (4, Pt b598 3)]) hst (by kernel_rfl) (pkr z z (fun w hst => x_load z isAgg25 (hst.bc2 z)) (pkr z z (fun w hst => x_field z underlying48 z sizeOf25 z) pk_nil)) ?_
 refine ws_e1 6 (by kernel_rfl) ?_
 refine nxe [7] (by kernel_rfl) z z ?_
 clear hst
 intro w hst
 replace hst := hst.pull1
 obtain ⟨css878, hq879, hst⟩ := hst.own_open
 obtain ⟨t880, ht881, hm⟩ := bind_some hm
 refine wec call34 [v876, U6 a0.Epoch, I6 (8:Int)] z z ?_
 refine (ref02_Num_ref (hst.rdrow0 hq879) hst.to0 ht881).mono ?_
 rintro _ w882 ⟨v885, rfl, hst⟩
 refine ⟨_, z, ?_⟩
 replace hst := hst.of1.pull1.own_close hq879
 refine ws_next (pend' := []) hst (by kernel_rfl) pk_nil ?_
 refine ws_e1 7 (by kernel_rfl) ?_
 refine nxe [] (by kernel_rfl) z z ?_
 clear hst
 intro w hst
 refine we_run (v := v885) (w' := w) z z ?_
 refine ws_next (pend' := []) hst (by kernel_rfl) pk_nil ?_
 refine ws_nil ?_
 intro w hst
 refine tn (wp_seq ?_)
 refine wp_region_St hst 11 [0, 1, 2, 3, 4, 5, 6, 7, 8, 9, 10] [0, 0, 2, 7, 0, 16, 63, 0, 128, 511, 1023] [] z (by kernel_rfl) (by kernel_rfl) Try.mixed (by kernel_rfl) ?_
 refine wsr (v885) 0 z z z (by kernel_rfl) (fun w hst => z) (wsr (Pt b598 21) 1 z z z (by kernel_rfl) (fun w hst => x_field z underlying48 z sizeOf46 z) (wsr (.agg #[U6 a0.Rule.ID, I6 a0.Rule.From, I6 a0.Rule.To, F6 a0.Rule.Lo, F6 a0.Rule.Hi, U6 a0.Rule.Authority, I6 a0.Rule.Quota]) 2 z z z (by kernel_rfl) (fun w hst => x_loadN (cs := [U6 a0.Rule.ID, I6 a0.Rule.From, I6 a0.Rule.To, F6 a0.Rule.Lo, F6 a0.Rule.Hi, U6 a0.Rule.Authority, I6 a0.Rule.Quota]) z isAgg46 sizeOf46 (hst.bcs3 21 z)) (wsr (Pt b598 13) 4 z z z (by kernel_rfl) (fun w hst => x_field z underlying48 z sizeOf42 z) (wsr (r0_4) 5 z z z (by kernel_rfl) (fun w hst => x_load z isAgg42 (hst.bc3 z)) (wsr (Pt b598 14) 7 z z z (by kernel_rfl) (fun w hst => x_field z underlying48 z sizeOf41 z) (wsr (.agg #[I6 a0.R.E, U6 a0.R.Epoch, U6 a0.R.Index, r0_5, r0_6]) 8 z z z (by kernel_rfl) (fun w hst => x_loadN (cs := [I6 a0.R.E, U6 a0.R.Epoch, U6 a0.R.Index, r0_5, r0_6]) z isAgg41 sizeOf41 (hst.bcs3 14 z)) ?_))))))
 refine ws_e1 3 (by kernel_rfl) ?_
 refine nxe [6, 9, 10] (by kernel_rfl) z z ?_
 clear hst
 intro w hst
 replace hst := hst.pull1
 obtain ⟨css887, hq888, hst⟩ := hst.own_open
 obtain ⟨t889, ht890, hm⟩ := bind_some hm
 refine wec call63 [v885, .agg #[U6 a0.Rule.ID, I6 a0.Rule.From, I6 a0.Rule.To, F6 a0.Rule.Lo, F6 a0.Rule.Hi, U6 a0.Rule.Authority, I6 a0.Rule.Quota]] z z ?_
 refine (ref13_Rule_ref (hst.rdrow0 hq888) hst.to0 ht890).mono ?_
 rintro _ w891 ⟨v894, rfl, hst⟩
 refine ⟨_, z, ?_⟩
 replace hst := hst.of1.pull1.own_close hq888
 refine ws_next (pend' := [(8, .agg #[I6 a0.R.E, U6 a0.R.Epoch, U6 a0.R.Index, r0_5, r0_6]), (7, Pt b598 14), (5, r0_4), (4, Pt b598 13)]) hst (by kernel_rfl) (pkr z z (fun w hst => x_loadN (cs := [I6 a0.R.E, U6 a0.R.Epoch, U6 a0.R.Index, r0_5, r0_6]) z isAgg41 sizeOf41 (hst.bcs4 14 z)) (pkr z z (fun w hst => x_field z underlying48 z sizeOf41 z) (pkr z z (fun w hst => x_load z isAgg42 (hst.bc4 z)) (pkr z z (fun w hst => x_field z underlying48 z sizeOf42 z) pk_nil)))) ?_
 refine ws_e1 6 (by kernel_rfl) ?_
 refine nxe [9, 10] (by kernel_rfl) z z ?_
 clear hst
 intro w hst
 replace hst := hst.pull1
 obtain ⟨css896, hq897, hst⟩ := hst.own_open
 obtain ⟨t898, ht899, hm⟩ := bind_some hm
 refine wec call62 [v894, r0_4] z z ?_
 refine (ref13_Writes_ref (hst.rdrow0 hq897) (f0_4.mono (rd_weak _)) hst.to0 ht899).mono ?_
 rintro _ w900 ⟨v903, rfl, hst⟩
 refine ⟨_, z, ?_⟩
 replace hst := hst.of1.pull1.own_close hq897
 refine ws_next (pend' := [(8, .agg #[I6 a0.R.E, U6 a0.R.Epoch, U6 a0.R.Index, r0_5, r0_6]), (7, Pt b598 14)]) hst (by kernel_rfl) (pkr z z (fun w hst => x_loadN (cs := [I6 a0.R.E, U6 a0.R.Epoch, U6 a0.R.Index, r0_5, r0_6]) z isAgg41 sizeOf41 (hst.bcs5 14 z)) (pkr z z (fun w hst => x_field z underlying48 z sizeOf41 z) pk_nil)) ?_
 refine ws_e1 9 (by kernel_rfl) ?_
 refine nxe [10] (by kernel_rfl) z z ?_
 clear hst
 intro w hst
 replace hst := hst.pull1
 obtain ⟨css905, hq906, hst⟩ := hst.own_open
 obtain ⟨t907, ht908, hm⟩ := bind_some hm
 refine wec call37 [v903, .agg #[I6 a0.R.E, U6 a0.R.Epoch, U6 a0.R.Index, r0_5, r0_6]] z z ?_
 refine (ref13_Reply_ref (hst.rdrow0 hq906) (f0_5.mono (rd_weak _)) (f0_6.mono (rd_weak _)) hst.to0 ht908).mono ?_
 rintro _ w909 ⟨v912, rfl, hst⟩
 refine ⟨_, z, ?_⟩
 replace hst := hst.of1.pull1.own_close hq906
 refine ws_next (pend' := []) hst (by kernel_rfl) pk_nil ?_
 refine wsr (v912) 10 z z z (by kernel_rfl) (fun w hst => z) ?_
 refine ws_nil ?_
 intro w hst
 refine tn (wp_ret (blk_r (then_r ?_)))
 obtain rfl := some_inj hm
 refine post_ret (vs := [v912]) results39 (rvs_cons (rv_tmp z) rvs_nil) ?_
 replace hst := hst.pull1
 exact ⟨v912, z, hst.keep1⟩
}
 {
 replace hm := bif_f hc868 hm
 refine wp_iff (cvb hc868) ?_
 refine wp_skip (blk_n (tn (wp_seq (wrl ?_))))
 refine wv (v611) z z z (wv (v611) z z z (wl_nil (tn (wp_ret ?_))))
 obtain rfl := some_inj hm
 refine post_ret (vs := [v611]) results39 (rvs_cons (rv_tmp z) rvs_nil) ?_
 exact ⟨v611, z, hst.keep1⟩
}
}
}
}
}
}
}
}

theorem ref13_Mail_ref {w0 w : World} {I : HL} {R : SP} {a0 : api_Mail} {r0_0 : Value} {r0_1 : Value} {r0_2 : Value} {r0_3 : Value} {r0_4 : Value} {r0_5 : Value} {r0_6 : Value} {r0_7 : Value} {r0_8 : Value} {r0_9 : Value} {r0_10 : Value} {r0_11 : Value} {r0_12 : Value} {r0_13 : Value} {r0_14 : Value} {r0_15 : Value} (f0_0 : Rd ty_api_Entry R I r0_0 a0.M.Entries) (f0_1 : Rd (tyInt .u8) R I r0_1 a0.M.S.Data) (f0_2 : Rd tyF64 R I r0_2 a0.H.Gets) (f0_3 : Rd tyF2 R I r0_3 a0.H.Scans) (f0_4 : Rd tyF64 R I r0_4 a0.H.Puts) (f0_5 : Rd (tyInt .u8) R I r0_5 a0.H.Data) (f0_6 : Rd ty_api_Got R I r0_6 a0.R.Gots) (f0_7 : Rd (tySl ty_api_Pair) R I r0_7 a0.R.Scans) (f0_8 : Rd tyF64 R I r0_8 a0.C.Hold.Gets) (f0_9 : Rd tyF2 R I r0_9 a0.C.Hold.Scans) (f0_10 : Rd tyF64 R I r0_10 a0.C.Hold.Puts) (f0_11 : Rd (tyInt .u8) R I r0_11 a0.C.Hold.Data) (f0_12 : Rd ty_api_Write R I r0_12 a0.C.Writes) (f0_13 : Rd ty_api_Got R I r0_13 a0.C.R.Gots) (f0_14 : Rd (tySl ty_api_Pair) R I r0_14 a0.C.R.Scans) (f0_15 : Rd ty_api_Part R I r0_15 a0.C.Parts) (hst : St w0 w I [] R) {r : ((List Int))} (hm : ref13_Mail a0 = some r) :
  Calls prog 10 #[.agg #[U1 a0.Kind, U1 a0.M.Kind, I6 a0.M.From, I6 a0.M.To, U6 a0.M.Term, U6 a0.M.Index, U6 a0.M.LogTerm, U6 a0.M.Commit, .bool a0.M.OK, r0_0, U6 a0.M.S.Index, U6 a0.M.S.Term, U6 a0.M.S.Voters, r0_1, U6 a0.H.ID.Session, U6 a0.H.ID.Seq, U6 a0.H.Epoch, r0_2, r0_3, r0_4, r0_5, U6 a0.ID.Session, U6 a0.ID.Seq, I6 a0.R.E, U6 a0.R.Epoch, U6 a0.R.Index, r0_6, r0_7, U1 a0.C.Kind, U6 a0.C.ID.Session, U6 a0.C.ID.Seq, U6 a0.C.Epoch, U6 a0.C.Index, I6 a0.C.E, U6 a0.C.Hold.ID.Session, U6 a0.C.Hold.ID.Seq, U6 a0.C.Hold.Epoch, r0_8, r0_9, r0_10, r0_11, r0_12, I6 a0.C.R.E, U6 a0.C.R.Epoch, U6 a0.C.R.Index, r0_13, r0_14, U6 a0.C.Shards, r0_15, U6 a0.C.Rule.ID, I6 a0.C.Rule.From, I6 a0.C.Rule.To, F6 a0.C.Rule.Lo, F6 a0.C.Rule.Hi, U6 a0.C.Rule.Authority, I6 a0.C.Rule.Quota, .bool a0.C.On]] w fun e w' => ∃ (q0_0 : Value), e = .returned (q0_0) ∧ St w0 w' I [ownS (tyInt .u8) q0_0 r] R := by {
 unfold ref13_Mail at hm
 refine calls_start (args := [.agg #[U1 a0.Kind, U1 a0.M.Kind, I6 a0.M.From, I6 a0.M.To, U6 a0.M.Term, U6 a0.M.Index, U6 a0.M.LogTerm, U6 a0.M.Commit, .bool a0.M.OK, r0_0, U6 a0.M.S.Index, U6 a0.M.S.Term, U6 a0.M.S.Voters, r0_1, U6 a0.H.ID.Session, U6 a0.H.ID.Seq, U6 a0.H.Epoch, r0_2, r0_3, r0_4, r0_5, U6 a0.ID.Session, U6 a0.ID.Seq, I6 a0.R.E, U6 a0.R.Epoch, U6 a0.R.Index, r0_6, r0_7, U1 a0.C.Kind, U6 a0.C.ID.Session, U6 a0.C.ID.Seq, U6 a0.C.Epoch, U6 a0.C.Index, I6 a0.C.E, U6 a0.C.Hold.ID.Session, U6 a0.C.Hold.ID.Seq, U6 a0.C.Hold.Epoch, r0_8, r0_9, r0_10, r0_11, r0_12, I6 a0.C.R.E, U6 a0.C.R.Epoch, U6 a0.C.R.Index, r0_13, r0_14, U6 a0.C.Shards, r0_15, U6 a0.C.Rule.ID, I6 a0.C.Rule.From, I6 a0.C.Rule.To, F6 a0.C.Rule.Lo, F6 a0.C.Rule.Hi, U6 a0.C.Rule.Authority, I6 a0.C.Rule.Quota, .bool a0.C.On]]) func10 z ntmps10 (Nat.le_of_ble_eq_true z) ?_
 refine wp_seq (wrl ?_)
 obtain ⟨b310, w311, ew312, eb313, hst⟩ := hst.box [U1 a0.Kind, U1 a0.M.Kind, I6 a0.M.From, I6 a0.M.To, U6 a0.M.Term, U6 a0.M.Index, U6 a0.M.LogTerm, U6 a0.M.Commit, .bool a0.M.OK, r0_0, U6 a0.M.S.Index, U6 a0.M.S.Term, U6 a0.M.S.Voters, r0_1, U6 a0.H.ID.Session, U6 a0.H.ID.Seq, U6 a0.H.Epoch, r0_2, r0_3, r0_4, r0_5, U6 a0.ID.Session, U6 a0.ID.Seq, I6 a0.R.E, U6 a0.R.Epoch, U6 a0.R.Index, r0_6, r0_7, U1 a0.C.Kind, U6 a0.C.ID.Session, U6 a0.C.ID.Seq, U6 a0.C.Epoch, U6 a0.C.Index, I6 a0.C.E, U6 a0.C.Hold.ID.Session, U6 a0.C.Hold.ID.Seq, U6 a0.C.Hold.Epoch, r0_8, r0_9, r0_10, r0_11, r0_12, I6 a0.C.R.E, U6 a0.C.R.Epoch, U6 a0.C.R.Index, r0_13, r0_14, U6 a0.C.Shards, r0_15, U6 a0.C.Rule.ID, I6 a0.C.Rule.From, I6 a0.C.Rule.To, F6 a0.C.Rule.Lo, F6 a0.C.Rule.Hi, U6 a0.C.Rule.Authority, I6 a0.C.Rule.Quota, .bool a0.C.On] 50
 refine wl_run (v := Pt b310 0) (w' := w311) z z (x_al (by kernel_rfl) ew312 eb313) ?_
 refine wv ((.slice none 0 0)) z z z (wl_nil (tn (wp_seq (wrl (wv (Pt b310 0) z z (x_field z underlying50 z sizeOf5 z) (wv (.int .u8 a0.Kind) z z (x_load z isAgg5 (hst.bc0 z)) (wv (.int .u64 (u64.wrap a0.Kind)) z z (by kernel_rfl) ?_)))))))
 have f317 : Ro (tyInt .u8) I (.slice none 0 0) [] := ro_nil
 obtain ⟨t318, ht319, hm⟩ := bind_some hm
 refine wc call34 [Zs, U6 (u64.wrap a0.Kind), I6 (1:Int)] z z z ?_
 refine (ref02_Num_ref (f317.mono ro_rd) hst.to0 ht319).mono ?_
 rintro _ w320 ⟨v323, rfl, hst⟩
 refine ⟨_, z, ?_⟩
 replace hst := hst.of1
 refine wv (v323) z z z (wl_nil (tn (wp_seq (wp_seq (wrl (wv (Pt b310 0) z z (x_field z underlying50 z sizeOf5 z) (wv (.int .u8 a0.Kind) z z (x_load z isAgg5 (hst.bc1 z)) (wl_nil (tn (wp_block (wp_seq (wrl (wv (.bool (a0.Kind == (1:Int))) z z z (wv (.bool (a0.Kind == (1:Int))) z z z (wl_nil (tn ?_))))))))))))))))
 refine bsplit (a0.Kind == (1:Int)) (fun hc325 => ?_) (fun hc325 => ?_)
 {
 replace hm := bif_t hc325 hm
 refine wp_ift (cvb hc325) ?_
 refine wp_seq (wrl (wv (v323) z z z (wv (Pt b310 1) z z (x_field z underlying50 z sizeOf30 z) (wv (.agg #[U1 a0.M.Kind, I6 a0.M.From, I6 a0.M.To, U6 a0.M.Term, U6 a0.M.Index, U6 a0.M.LogTerm, U6 a0.M.Commit, .bool a0.M.OK, r0_0, U6 a0.M.S.Index, U6 a0.M.S.Term, U6 a0.M.S.Voters, r0_1]) z z (x_loadN (cs := [U1 a0.M.Kind, I6 a0.M.From, I6 a0.M.To, U6 a0.M.Term, U6 a0.M.Index, U6 a0.M.LogTerm, U6 a0.M.Commit, .bool a0.M.OK, r0_0, U6 a0.M.S.Index, U6 a0.M.S.Term, U6 a0.M.S.Voters, r0_1]) z isAgg30 sizeOf30 (hst.bcs1 1 z)) ?_))))
 obtain ⟨css326, hq327, hst⟩ := hst.own_open
 obtain ⟨t328, ht329, hm⟩ := bind_some hm
 refine wc call35 [v323, .agg #[U1 a0.M.Kind, I6 a0.M.From, I6 a0.M.To, U6 a0.M.Term, U6 a0.M.Index, U6 a0.M.LogTerm, U6 a0.M.Commit, .bool a0.M.OK, r0_0, U6 a0.M.S.Index, U6 a0.M.S.Term, U6 a0.M.S.Voters, r0_1]] z z z ?_
 refine (ref13_Message_ref (hst.rdrow0 hq327) (f0_0.mono (rd_weak _)) (f0_1.mono (rd_weak _)) hst.to0 ht329).mono ?_
 rintro _ w330 ⟨v333, rfl, hst⟩
 refine ⟨_, z, ?_⟩
 replace hst := hst.of1.pull1.own_close hq327
 refine wv (v333) z z z (wl_nil (tn (wp_ret (blk_r (then_r ?_)))))
 obtain rfl := some_inj hm
 refine post_ret (vs := [v333]) results10 (rvs_cons (rv_tmp z) rvs_nil) ?_
 replace hst := hst.pull1
 exact ⟨v333, z, hst.keep1⟩
}
 {
 replace hm := bif_f hc325 hm
 refine wp_iff (cvb hc325) ?_
 obtain ⟨y339, hm, hx340⟩ := bind_some hm
 refine wp_cut (fun a w => ∃ (z336 : Bool) (σ337 : Nat → Value), (ref13_Mail_j0 t318 a0) z336 = some r ∧ a = Fr 46 (upd (upd (upd (upd σ337 1 (Pt b310 0)) 3 (v323)) 9 (.int .u8 a0.Kind)) 16 (.bool z336)) ∧ St w0 w I [cells b310 [U1 a0.Kind, U1 a0.M.Kind, I6 a0.M.From, I6 a0.M.To, U6 a0.M.Term, U6 a0.M.Index, U6 a0.M.LogTerm, U6 a0.M.Commit, .bool a0.M.OK, r0_0, U6 a0.M.S.Index, U6 a0.M.S.Term, U6 a0.M.S.Voters, r0_1, U6 a0.H.ID.Session, U6 a0.H.ID.Seq, U6 a0.H.Epoch, r0_2, r0_3, r0_4, r0_5, U6 a0.ID.Session, U6 a0.ID.Seq, I6 a0.R.E, U6 a0.R.Epoch, U6 a0.R.Index, r0_6, r0_7, U1 a0.C.Kind, U6 a0.C.ID.Session, U6 a0.C.ID.Seq, U6 a0.C.Epoch, U6 a0.C.Index, I6 a0.C.E, U6 a0.C.Hold.ID.Session, U6 a0.C.Hold.ID.Seq, U6 a0.C.Hold.Epoch, r0_8, r0_9, r0_10, r0_11, r0_12, I6 a0.C.R.E, U6 a0.C.R.Epoch, U6 a0.C.R.Index, r0_13, r0_14, U6 a0.C.Shards, r0_15, U6 a0.C.Rule.ID, I6 a0.C.Rule.From, I6 a0.C.Rule.To, F6 a0.C.Rule.Lo, F6 a0.C.Rule.Hi, U6 a0.C.Rule.Authority, I6 a0.C.Rule.Quota, .bool a0.C.On], ownS (tyInt .u8) v323 t318] R) ?_ ?_
 {
 refine wp_seq (wrl (wv (.bool (a0.Kind == (2:Int))) z z z (wv (.bool (a0.Kind == (2:Int))) z z z (wl_nil (tn ?_)))))
 refine bsplit (a0.Kind == (2:Int)) (fun hc335 => ?_) (fun hc335 => ?_)
 {
 replace hm := bif_t hc335 hm
 refine wp_ift (cvb hc335) ?_
 refine wp_skip (tn ?_)
 replace hst := hst.pull1.keep2
 obtain rfl := some_inj hm
 exact ⟨(a0.Kind == (2:Int)), _, hx340, (fu 1 (Pt b310 0) z (fu 3 v323 z (fu 9 (.int .u8 a0.Kind) z (fu 16 (.bool (a0.Kind == (2:Int))) z z)))), hst⟩
}
 {
 replace hm := bif_f hc335 hm
 refine wp_iff (cvb hc335) ?_
 refine wrl (wv (.bool (a0.Kind == (6:Int))) z z z (wv (.bool (a0.Kind == (6:Int))) z z z (wl_nil (tn ?_))))
 replace hst := hst.pull1.keep2
 obtain rfl := some_inj hm
 exact ⟨(a0.Kind == (6:Int)), _, hx340, (fu 1 (Pt b310 0) z (fu 3 v323 z (fu 9 (.int .u8 a0.Kind) z (fu 16 (.bool (a0.Kind == (6:Int))) z z)))), hst⟩
}
}
 {
 clear hst
 rintro _ w341 ⟨z336, σ337, hm, rfl, hst⟩
 dsimp only [ref13_Mail_j0] at hm
 refine bsplit z336 (fun hc342 => ?_) (fun hc342 => ?_)
 {
 replace hm := bif_t hc342 hm
 refine wp_ift (cvb hc342) ?_
 refine wp_seq (wrl (wv (v323) z z z (wv (Pt b310 14) z z (x_field z underlying50 z sizeOf36 z) (wv (.agg #[U6 a0.H.ID.Session, U6 a0.H.ID.Seq, U6 a0.H.Epoch, r0_2, r0_3, r0_4, r0_5]) z z (x_loadN (cs := [U6 a0.H.ID.Session, U6 a0.H.ID.Seq, U6 a0.H.Epoch, r0_2, r0_3, r0_4, r0_5]) z isAgg36 sizeOf36 (hst.bcs0 14 z)) ?_))))
 replace hst := hst.pull1
 obtain ⟨css343, hq344, hst⟩ := hst.own_open
 obtain ⟨t345, ht346, hm⟩ := bind_some hm
 refine wc call36 [v323, .agg #[U6 a0.H.ID.Session, U6 a0.H.ID.Seq, U6 a0.H.Epoch, r0_2, r0_3, r0_4, r0_5]] z z z ?_
 refine (ref12_Hold_ref (hst.rdrow0 hq344) (f0_2.mono (rd_weak _)) (f0_3.mono (rd_weak _)) (f0_4.mono (rd_weak _)) (f0_5.mono (rd_weak _)) hst.to0 ht346).mono ?_
 rintro _ w347 ⟨v350, rfl, hst⟩
 refine ⟨_, z, ?_⟩
 replace hst := hst.of1.pull1.own_close hq344
 refine wv (v350) z z z (wl_nil (tn (wp_ret (blk_r (then_r ?_)))))
 obtain rfl := some_inj hm
 refine post_ret (vs := [v350]) results10 (rvs_cons (rv_tmp z) rvs_nil) ?_
 replace hst := hst.pull1
 exact ⟨v350, z, hst.keep1⟩
}
 {
 replace hm := bif_f hc342 hm
 refine wp_iff (cvb hc342) ?_
 refine wp_seq (wrl (wv (.bool (a0.Kind == (3:Int))) z z z (wv (.bool (a0.Kind == (3:Int))) z z z (wl_nil (tn ?_)))))
 refine bsplit (a0.Kind == (3:Int)) (fun hc352 => ?_) (fun hc352 => ?_)
 {
 replace hm := bif_t hc352 hm
 refine wp_ift (cvb hc352) ?_
 refine wp_seq ?_
 refine wp_region_St hst 8 [0, 1, 2, 3, 4, 5, 6, 7] [0, 0, 2, 7, 0, 16, 63, 127] [] z (by kernel_rfl) (by kernel_rfl) Try.mixed (by kernel_rfl) ?_
 refine wsr (v323) 0 z z z (by kernel_rfl) (fun w hst => z) (wsr (Pt b310 14) 1 z z z (by kernel_rfl) (fun w hst => x_field z underlying50 z sizeOf36 z) (wsr (.agg #[U6 a0.H.ID.Session, U6 a0.H.ID.Seq, U6 a0.H.Epoch, r0_2, r0_3, r0_4, r0_5]) 2 z z z (by kernel_rfl) (fun w hst => x_loadN (cs := [U6 a0.H.ID.Session, U6 a0.H.ID.Seq, U6 a0.H.Epoch, r0_2, r0_3, r0_4, r0_5]) z isAgg36 sizeOf36 (hst.bcs0 14 z)) (wsr (Pt b310 23) 4 z z z (by kernel_rfl) (fun w hst => x_field z underlying50 z sizeOf41 z) (wsr (.agg #[I6 a0.R.E, U6 a0.R.Epoch, U6 a0.R.Index, r0_6, r0_7]) 5 z z z (by kernel_rfl) (fun w hst => x_loadN (cs := [I6 a0.R.E, U6 a0.R.Epoch, U6 a0.R.Index, r0_6, r0_7]) z isAgg41 sizeOf41 (hst.bcs0 23 z)) ?_))))
 refine ws_e1 3 (by kernel_rfl) ?_
 refine nxe [6, 7] (by kernel_rfl) z z ?_
 clear hst
 intro w hst
 replace hst := hst.pull1
 obtain ⟨css353, hq354, hst⟩ := hst.own_open
 obtain ⟨t355, ht356, hm⟩ := bind_some hm
 refine wec call36 [v323, .agg #[U6 a0.H.ID.Session, U6 a0.H.ID.Seq, U6 a0.H.Epoch, r0_2, r0_3, r0_4, r0_5]] z z ?_
 refine (ref12_Hold_ref (hst.rdrow0 hq354) (f0_2.mono (rd_weak _)) (f0_3.mono (rd_weak _)) (f0_4.mono (rd_weak _)) (f0_5.mono (rd_weak _)) hst.to0 ht356).mono ?_
 rintro _ w357 ⟨v360, rfl, hst⟩
 refine ⟨_, z, ?_⟩
 replace hst := hst.of1.pull1.own_close hq354
 refine ws_next (pend' := [(5, .agg #[I6 a0.R.E, U6 a0.R.Epoch, U6 a0.R.Index, r0_6, r0_7]), (4, Pt b310 23)]) hst (by kernel_rfl) (pkr z z (fun w hst => x_loadN (cs := [I6 a0.R.E, U6 a0.R.Epoch, U6 a0.R.Index, r0_6, r0_7]) z isAgg41 sizeOf41 (hst.bcs2 23 z)) (pkr z z (fun w hst => x_field z underlying50 z sizeOf41 z) pk_nil)) ?_
 refine ws_e1 6 (by kernel_rfl) ?_
 refine nxe [7] (by kernel_rfl) z z ?_
 clear hst
 intro w hst
 replace hst := hst.pull1
 obtain ⟨css362, hq363, hst⟩ := hst.own_open
 obtain ⟨t364, ht365, hm⟩ := bind_some hm
 refine wec call37 [v360, .agg #[I6 a0.R.E, U6 a0.R.Epoch, U6 a0.R.Index, r0_6, r0_7]] z z ?_
 refine (ref13_Reply_ref (hst.rdrow0 hq363) (f0_6.mono (rd_weak _)) (f0_7.mono (rd_weak _)) hst.to0 ht365).mono ?_
 rintro _ w366 ⟨v369, rfl, hst⟩
 refine ⟨_, z, ?_⟩
 replace hst := hst.of1.pull1.own_close hq363
 refine ws_next (pend' := []) hst (by kernel_rfl) pk_nil ?_
 refine wsr (v369) 7 z z z (by kernel_rfl) (fun w hst => z) ?_
 refine ws_nil ?_
 intro w hst
 refine tn (wp_ret (blk_r (then_r ?_)))
 obtain rfl := some_inj hm
 refine post_ret (vs := [v369]) results10 (rvs_cons (rv_tmp z) rvs_nil) ?_
 replace hst := hst.pull1
 exact ⟨v369, z, hst.keep1⟩
}
 {
 replace hm := bif_f hc352 hm
 refine wp_iff (cvb hc352) ?_
 refine wp_seq (wrl (wv (.bool (a0.Kind == (4:Int))) z z z (wv (.bool (a0.Kind == (4:Int))) z z z (wl_nil (tn ?_)))))
 refine bsplit (a0.Kind == (4:Int)) (fun hc371 => ?_) (fun hc371 => ?_)
 {
 replace hm := bif_t hc371 hm
 refine wp_ift (cvb hc371) ?_
 refine wp_seq (wrl (wv (v323) z z z (wv (Pt b310 28) z z (x_field z underlying50 z sizeOf48 z) (wv (.agg #[U1 a0.C.Kind, U6 a0.C.ID.Session, U6 a0.C.ID.Seq, U6 a0.C.Epoch, U6 a0.C.Index, I6 a0.C.E, U6 a0.C.Hold.ID.Session, U6 a0.C.Hold.ID.Seq, U6 a0.C.Hold.Epoch, r0_8, r0_9, r0_10, r0_11, r0_12, I6 a0.C.R.E, U6 a0.C.R.Epoch, U6 a0.C.R.Index, r0_13, r0_14, U6 a0.C.Shards, r0_15, U6 a0.C.Rule.ID, I6 a0.C.Rule.From, I6 a0.C.Rule.To, F6 a0.C.Rule.Lo, F6 a0.C.Rule.Hi, U6 a0.C.Rule.Authority, I6 a0.C.Rule.Quota, .bool a0.C.On]) z z (x_loadN (cs := [U1 a0.C.Kind, U6 a0.C.ID.Session, U6 a0.C.ID.Seq, U6 a0.C.Epoch, U6 a0.C.Index, I6 a0.C.E, U6 a0.C.Hold.ID.Session, U6 a0.C.Hold.ID.Seq, U6 a0.C.Hold.Epoch, r0_8, r0_9, r0_10, r0_11, r0_12, I6 a0.C.R.E, U6 a0.C.R.Epoch, U6 a0.C.R.Index, r0_13, r0_14, U6 a0.C.Shards, r0_15, U6 a0.C.Rule.ID, I6 a0.C.Rule.From, I6 a0.C.Rule.To, F6 a0.C.Rule.Lo, F6 a0.C.Rule.Hi, U6 a0.C.Rule.Authority, I6 a0.C.Rule.Quota, .bool a0.C.On]) z isAgg48 sizeOf48 (hst.bcs0 28 z)) ?_))))
 obtain ⟨t372, ht373, hm⟩ := bind_some hm
 refine wc call39 [.agg #[U1 a0.C.Kind, U6 a0.C.ID.Session, U6 a0.C.ID.Seq, U6 a0.C.Epoch, U6 a0.C.Index, I6 a0.C.E, U6 a0.C.Hold.ID.Session, U6 a0.C.Hold.ID.Seq, U6 a0.C.Hold.Epoch, r0_8, r0_9, r0_10, r0_11, r0_12, I6 a0.C.R.E, U6 a0.C.R.Epoch, U6 a0.C.R.Index, r0_13, r0_14, U6 a0.C.Shards, r0_15, U6 a0.C.Rule.ID, I6 a0.C.Rule.From, I6 a0.C.Rule.To, F6 a0.C.Rule.Lo, F6 a0.C.Rule.Hi, U6 a0.C.Rule.Authority, I6 a0.C.Rule.Quota, .bool a0.C.On]] z z z ?_
 refine (ref13_Command_ref (f0_8.mono (rd_weak _)) (f0_9.mono (rd_weak _)) (f0_10.mono (rd_weak _)) (f0_11.mono (rd_weak _)) (f0_12.mono (rd_weak _)) (f0_13.mono (rd_weak _)) (f0_14.mono (rd_weak _)) (f0_15.mono (rd_weak _)) hst.to0 ht373).mono ?_
 rintro _ w374 ⟨v377, rfl, hst⟩
 refine ⟨_, z, ?_⟩
 replace hst := hst.of1.pull2
 obtain ⟨css379, hq380, hst⟩ := hst.own_open
 replace hst := hst.pull1
 obtain ⟨css381, hq382, hst⟩ := hst.own_open
 obtain ⟨t383, ht384, hm⟩ := bind_some hm
 refine wc call38 [v323, v377] z z z ?_
 refine (ref02_Bytes_ref (hst.rdrow1 hq380) (hst.rdrow0 hq382) hst.to0 ht384).mono ?_
 rintro _ w385 ⟨v388, rfl, hst⟩
 refine ⟨_, z, ?_⟩
 replace hst := hst.of1.pull2.own_close hq380
 replace hst := hst.pull2.own_close hq382
 refine wv (v388) z z z (wl_nil (tn (wp_ret (blk_r (then_r ?_)))))
 obtain rfl := some_inj hm
 refine post_ret (vs := [v388]) results10 (rvs_cons (rv_tmp z) rvs_nil) ?_
 replace hst := hst.pull2
 exact ⟨v388, z, hst.keep1⟩
}
 {
 replace hm := bif_f hc371 hm
 refine wp_iff (cvb hc371) ?_
 refine wp_seq (wrl (wv (.bool (a0.Kind == (5:Int))) z z z (wv (.bool (a0.Kind == (5:Int))) z z z (wl_nil (tn ?_)))))
 refine bsplit (a0.Kind == (5:Int)) (fun hc390 => ?_) (fun hc390 => ?_)
 {
 replace hm := bif_t hc390 hm
 refine wp_ift (cvb hc390) ?_
 refine wp_seq (wrl (wv (v323) z z z (wv (Pt b310 21) z z (x_field z underlying50 z sizeOf32 z) (wv (.agg #[U6 a0.ID.Session, U6 a0.ID.Seq]) z z (x_loadN (cs := [U6 a0.ID.Session, U6 a0.ID.Seq]) z isAgg32 sizeOf32 (hst.bcs0 21 z)) ?_))))
 replace hst := hst.pull1
 obtain ⟨css391, hq392, hst⟩ := hst.own_open
 obtain ⟨t393, ht394, hm⟩ := bind_some hm
 refine wc call40 [v323, .agg #[U6 a0.ID.Session, U6 a0.ID.Seq]] z z z ?_
 refine (ref12_ID_ref (hst.rdrow0 hq392) hst.to0 ht394).mono ?_
 rintro _ w395 ⟨v398, rfl, hst⟩
 refine ⟨_, z, ?_⟩
 replace hst := hst.of1.pull1.own_close hq392
 refine wv (v398) z z z (wl_nil (tn (wp_ret (blk_r (then_r ?_)))))
 obtain rfl := some_inj hm
 refine post_ret (vs := [v398]) results10 (rvs_cons (rv_tmp z) rvs_nil) ?_
 replace hst := hst.pull1
 exact ⟨v398, z, hst.keep1⟩
}
 {
 replace hm := bif_f hc390 hm
 refine wp_iff (cvb hc390) ?_
 refine wp_skip (blk_n (tn (wp_seq (wrl ?_))))
 refine wv (v323) z z z (wv (v323) z z z (wl_nil (tn (wp_ret ?_))))
 obtain rfl := some_inj hm
 refine post_ret (vs := [v323]) results10 (rvs_cons (rv_tmp z) rvs_nil) ?_
 replace hst := hst.pull1
 exact ⟨v323, z, hst.keep1⟩
}
}
}
}
}
}
}

theorem ref08_SameEntries_ref {w0 w : World} {I : HL} {R : SP} {a0 : (List api_Entry)} {r0_0 : Value} {a1 : (List api_Entry)} {r1_0 : Value} (f0_0 : Rd ty_api_Entry R I r0_0 a0) (f1_0 : Rd ty_api_Entry R I r1_0 a1) (hst : St w0 w I [] R) {r : (Bool)} (hm : ref08_SameEntries a0 a1 = some r) :
  Calls prog 41 #[r0_0, r1_0] w fun e w' => e = .returned (.bool r) ∧ St w0 w' I [] R := by {
 unfold ref08_SameEntries at hm
 refine calls_start (args := [r0_0, r1_0]) func41 z ntmps41 (Nat.le_of_ble_eq_true z) ?_
 refine wp_seq (wrl (wv (.bool false) z z z (wl_nil (tn (wp_seq (wp_seq (wrl (wv (r0_0) z z z (wv (.int .i64 ((a0).length : Int)) z z (x_len z underlying26 (rd_sliceV f0_0)) (wv (r1_0) z z z (wv (.int .i64 ((a1).length : Int)) z z (x_len z underlying26 (rd_sliceV f1_0)) (wv (.bool (((a0).length : Int) != ((a1).length : Int))) z z z (wl_nil (tn ?_))))))))))))))
 refine bsplit (((a0).length : Int) != ((a1).length : Int)) (fun hc352 => ?_) (fun hc352 => ?_)
 {
 replace hm := bif_t hc352 hm
 refine wp_ift (cvb hc352) ?_
 refine wp_seq (wrl (wv (.bool false) z z z (wl_nil (tn (wp_ret (then_r ?_))))))
 obtain rfl := some_inj hm
 refine post_ret (vs := [.bool false]) results41 (rvs_cons (rv_tmp z) rvs_nil) ?_
 exact ⟨z, hst.keep0⟩
}
 {
 replace hm := bif_f hc352 hm
 refine wp_iff (cvb hc352) ?_
 refine wp_skip (tn (wp_seq (wp_seq (wrl ?_))))
 refine wv (.int .i64 (0:Int)) z z z (wl_nil (tn (wp_block ?_)))
 obtain ⟨n410, hm⟩ := loopO_some hm
 refine wp_loop_n (fun n a w => ∃ (z408 : Int) (σ409 : Nat → Value), loopN (ref08_SameEntries_l0 a0 a1) n z408 = some r ∧ a = Fr 69 (upd (upd (upd σ409 0 (r0_0)) 1 (r1_0)) 5 (.int .i64 z408)) ∧ St w0 w I [] R) n410 ⟨(0:Int), _, hm, (fu 0 r0_0 z (fu 1 r1_0 z (fu 5 (.int .i64 (0:Int)) z z))), hst⟩ ?_
 rintro n416 _ w411 ⟨z408, σ409, hm, rfl, hst⟩
 obtain ⟨n413, y414, rfl, hm, hx415⟩ := loopN_some hm
 dsimp only [ref08_SameEntries_l0] at hm
 refine wp_seq (wp_seq (wrl (wv (.int .i64 z408) z z z (wv (r0_0) z z z (wv (.int .i64 ((a0).length : Int)) z z (x_len z underlying26 (rd_sliceV f0_0)) (wv (.bool (decide (z408 < ((a0).length : Int)))) z z z (wl_nil (tn ?_))))))))
 refine bsplit (decide (z408 < ((a0).length : Int))) (fun hc417 => ?_) (fun hc417 => ?_)
 {
 replace hm := bif_t hc417 hm
 refine wp_ift (cvb hc417) ?_
 refine wp_skip (tn (wp_seq (wp_block (wp_seq ?_))))
 refine wq_regionS hst Try.mixed (by kernel_rfl) ?_
 refine wq_run (v := r0_0) z z (fun w hst => z) ?_
 refine wq_run (v := .int .i64 z408) z z (fun w hst => z) ?_
 obtain ⟨x418, hx419, hm⟩ := bind_some hm
 obtain ⟨h420, h421, hi422⟩ := geto_some hx419
 refine wq_run (v := .pointer (some (eAddr r0_0 (z408.toNat * 4 + 0)))) z z (fun w hst => x_index z z underlying26 sizeOf84 (rd_sliceV f0_0) h420 h421) ?_
 refine wq_run (v := .pointer (some (eAddr r0_0 (z408.toNat * 4 + 0)))) z z (fun w hst => x_field_e z underlying84 z sizeOf25 z) ?_
 obtain ⟨cs423, hr424, hc425⟩ := Rd.getF f0_0 hi422
 obtain ⟨v426, rfl, f427, -⟩ := hr424
 refine wq_run (v := .int .u64 x418.Index) z z (fun w hst => x_load z isAgg25 ((hc425 (HL.le.refl _) hst) 0 _ z)) ?_
 refine wq_run (v := r1_0) z z (fun w hst => z) ?_
 refine wq_run (v := .int .i64 z408) z z (fun w hst => z) ?_
 obtain ⟨x429, hx430, hm⟩ := bind_some hm
 obtain ⟨h431, h432, hi433⟩ := geto_some hx430
 refine wq_run (v := .pointer (some (eAddr r1_0 (z408.toNat * 4 + 0)))) z z (fun w hst => x_index z z underlying26 sizeOf84 (rd_sliceV f1_0) h431 h432) ?_
 refine wq_run (v := .pointer (some (eAddr r1_0 (z408.toNat * 4 + 0)))) z z (fun w hst => x_field_e z underlying84 z sizeOf25 z) ?_
 obtain ⟨cs434, hr435, hc436⟩ := Rd.getF f1_0 hi433
 obtain ⟨v437, rfl, f438, -⟩ := hr435
 refine wq_run (v := .int .u64 x429.Index) z z (fun w hst => x_load z isAgg25 ((hc436 (HL.le.refl _) hst) 0 _ z)) ?_
 refine wq_run (v := .bool (x418.Index != x429.Index)) z z (fun w hst => z) ?_
 refine wq_run (v := .bool (x418.Index != x429.Index)) z z (fun w hst => z) ?_
 refine bsplit (x418.Index != x429.Index) (fun hc440 => ?_) (fun hc440 => ?_)
 {
 replace hm := bif_t hc440 hm
 refine wq_off ((wanted_eq z z z (cvb hc440)).trans z) z ?_
 refine wq_off ((wanted_eq z z z (cvb hc440)).trans z) z ?_
 refine wq_off ((wanted_eq z z z (cvb hc440)).trans z) z ?_
 refine wq_off ((wanted_eq z z z (cvb hc440)).trans z) z ?_
 refine wq_off ((wanted_eq z z z (cvb hc440)).trans z) z ?_
 refine wq_off ((wanted_eq z z z (cvb hc440)).trans z) z ?_
 refine wq_off ((wanted_eq z z z (cvb hc440)).trans z) z ?_
 refine wq_off ((wanted_eq z z z (cvb hc440)).trans z) z ?_
 refine wq_off ((wanted_eq z z z (cvb hc440)).trans z) z ?_
 refine wq_off ((wanted_eq z z z (cvb hc440)).trans z) z ?_
 refine wq_off ((wanted_eq z z z (cvb hc440)).trans z) z ?_
 refine wq_run (v := .bool true) z z (fun w hst => x_pick_t hc440 z z) ?_
 refine wq_run (v := .bool true) z z (fun w hst => z) ?_
 refine wq_off ((wanted_eq z z z z).trans z) z ?_
 refine wq_off ((wanted_eq z z z z).trans z) z ?_
 refine wq_off ((wanted_eq z z z z).trans z) z ?_
 refine wq_off ((wanted_eq z z z z).trans z) z ?_
 refine wq_off ((wanted_eq z z z z).trans z) z ?_
 refine wq_off ((wanted_eq z z z z).trans z) z ?_
 refine wq_off ((wanted_eq z z z z).trans z) z ?_
 refine wq_off ((wanted_eq z z z z).trans z) z ?_
 refine wq_off ((wanted_eq z z z z).trans z) z ?_
 refine wq_off ((wanted_eq z z z z).trans z) z ?_
 refine wq_off ((wanted_eq z z z z).trans z) z ?_
 refine wq_run (v := .bool true) z z (fun w hst => x_pick_t z z z) ?_
 refine wq_run (v := .bool true) z z (fun w hst => z) ?_
 refine wq_off ((wanted_eq z z z z).trans z) z ?_
 refine wq_off ((wanted_eq z z z z).trans z) z ?_
 refine wq_off ((wanted_eq z z z z).trans z) z ?_
 refine wq_off ((wanted_eq z z z z).trans z) z ?_
 refine wq_off ((wanted_eq z z z z).trans z) z ?_
 refine wq_off ((wanted_eq z z z z).trans z) z ?_
 refine wq_off ((wanted_eq z z z z).trans z) z ?_
 refine wq_off ((wanted_eq z z z z).trans z) z ?_
 refine wq_off ((wanted_eq z z z z).trans z) z ?_
 refine wq_off ((wanted_eq z z z z).trans z) z ?_
 refine wq_off ((wanted_eq z z z z).trans z) z ?_
 refine wq_off ((wanted_eq z z z z).trans z) z ?_
 refine wq_off ((wanted_eq z z z z).trans z) z ?_
 refine wq_run (v := .bool true) z z (fun w hst => x_pick_t z z z) ?_
 refine wq_nil ?_
 intro w hst
 refine tn ?_
 refine wp_ift z ?_
 refine wp_seq (wrl (wv (.bool false) z z z (wl_nil (tn (wp_ret (blk_r (then_r (then_r ?_))))))))
 replace hm := inr_up hm hx415
 refine blk_r (then_r ?_)
 obtain rfl := some_inj hm
 refine post_ret (vs := [.bool false]) results41 (rvs_cons (rv_tmp z) rvs_nil) ?_
 exact ⟨z, hst.keep0⟩
}
 {
 replace hm := bif_f hc440 hm
 refine wq_run (v := r0_0) ((wanted_eq z z z (cvb hc440)).trans z) z (fun w hst => z) ?_
 refine wq_run (v := .int .i64 z408) ((wanted_eq z z z (cvb hc440)).trans z) z (fun w hst => z) ?_
 refine wq_run (v := .pointer (some (eAddr r0_0 (z408.toNat * 4 + 0)))) ((wanted_eq z z z (cvb hc440)).trans z) z (fun w hst => x_index z z underlying26 sizeOf84 (rd_sliceV f0_0) h420 h421) ?_
 refine wq_run (v := .pointer (some (eAddr r0_0 (z408.toNat * 4 + 1)))) ((wanted_eq z z z (cvb hc440)).trans z) z (fun w hst => x_field_e z underlying84 z sizeOf25 z) ?_
 refine wq_run (v := .int .u64 x418.Term) ((wanted_eq z z z (cvb hc440)).trans z) z (fun w hst => x_load z isAgg25 ((hc425 (HL.le.refl _) hst) 1 _ z)) ?_
 refine wq_run (v := r1_0) ((wanted_eq z z z (cvb hc440)).trans z) z (fun w hst => z) ?_
 refine wq_run (v := .int .i64 z408) ((wanted_eq z z z (cvb hc440)).trans z) z (fun w hst => z) ?_
 refine wq_run (v := .pointer (some (eAddr r1_0 (z408.toNat * 4 + 0)))) ((wanted_eq z z z (cvb hc440)).trans z) z (fun w hst => x_index z z underlying26 sizeOf84 (rd_sliceV f1_0) h431 h432) ?_
 refine wq_run (v := .pointer (some (eAddr r1_0 (z408.toNat * 4 + 1)))) ((wanted_eq z z z (cvb hc440)).trans z) z (fun w hst => x_field_e z underlying84 z sizeOf25 z) ?_
 refine wq_run (v := .int .u64 x429.Term) ((wanted_eq z z z (cvb hc440)).trans z) z (fun w hst => x_load z isAgg25 ((hc436 (HL.le.refl _) hst) 1 _ z)) ?_
 refine wq_run (v := .bool (x418.Term != x429.Term)) ((wanted_eq z z z (cvb hc440)).trans z) z (fun w hst => z) ?_
 refine wq_run (v := .bool (x418.Term != x429.Term)) z z (fun w hst => x_pick_f hc440 z z) ?_
 refine wq_run (v := .bool (x418.Term != x429.Term)) z z (fun w hst => z) ?_
 refine bsplit (x418.Term != x429.Term) (fun hc441 => ?_) (fun hc441 => ?_)
 {
 replace hm := bif_t hc441 hm
 refine wq_off ((wanted_eq z z z (cvb hc441)).trans z) z ?_
 refine wq_off ((wanted_eq z z z (cvb hc441)).trans z) z ?_
 refine wq_off ((wanted_eq z z z (cvb hc441)).trans z) z ?_
 refine wq_off ((wanted_eq z z z (cvb hc441)).trans z) z ?_
 refine wq_off ((wanted_eq z z z (cvb hc441)).trans z) z ?_
 refine wq_off ((wanted_eq z z z (cvb hc441)).trans z) z ?_
 refine wq_off ((wanted_eq z z z (cvb hc441)).trans z) z ?_
 refine wq_off ((wanted_eq z z z (cvb hc441)).trans z) z ?_
 refine wq_off ((wanted_eq z z z (cvb hc441)).trans z) z ?_
 refine wq_off ((wanted_eq z z z (cvb hc441)).trans z) z ?_
 refine wq_off ((wanted_eq z z z (cvb hc441)).trans z) z ?_
 refine wq_run (v := .bool true) z z (fun w hst => x_pick_t hc441 z z) ?_
 refine wq_run (v := .bool true) z z (fun w hst => z) ?_
 refine wq_off ((wanted_eq z z z z).trans z) z ?_
 refine wq_off ((wanted_eq z z z z).trans z) z ?_
 refine wq_off ((wanted_eq z z z z).trans z) z ?_
 refine wq_off ((wanted_eq z z z z).trans z) z ?_
 refine wq_off ((wanted_eq z z z z).trans z) z ?_
 refine wq_off ((wanted_eq z z z z).trans z) z ?_
 refine wq_off ((wanted_eq z z z z).trans z) z ?_
 refine wq_off ((wanted_eq z z z z).trans z) z ?_
 refine wq_off ((wanted_eq z z z z).trans z) z ?_
 refine wq_off ((wanted_eq z z z z).trans z) z ?_
 refine wq_off ((wanted_eq z z z z).trans z) z ?_
 refine wq_off ((wanted_eq z z z z).trans z) z ?_
 refine wq_off ((wanted_eq z z z z).trans z) z ?_
 refine wq_run (v := .bool true) z z (fun w hst => x_pick_t z z z) ?_
 refine wq_nil ?_
 intro w hst
 refine tn ?_
 refine wp_ift z ?_
 refine wp_seq (wrl (wv (.bool false) z z z (wl_nil (tn (wp_ret (blk_r (then_r (then_r ?_))))))))
 replace hm := inr_up hm hx415
 refine blk_r (then_r ?_)
 obtain rfl := some_inj hm
 refine post_ret (vs := [.bool false]) results41 (rvs_cons (rv_tmp z) rvs_nil) ?_
 exact ⟨z, hst.keep0⟩
}
 {
 replace hm := bif_f hc441 hm
 refine wq_run (v := r0_0) ((wanted_eq z z z (cvb hc441)).trans z) z (fun w hst => z) ?_
 refine wq_run (v := .int .i64 z408) ((wanted_eq z z z (cvb hc441)).trans z) z (fun w hst => z) ?_
 refine wq_run (v := .pointer (some (eAddr r0_0 (z408.toNat * 4 + 0)))) ((wanted_eq z z z (cvb hc441)).trans z) z (fun w hst => x_index z z underlying26 sizeOf84 (rd_sliceV f0_0) h420 h421) ?_
 refine wq_run (v := .pointer (some (eAddr r0_0 (z408.toNat * 4 + 2)))) ((wanted_eq z z z (cvb hc441)).trans z) z (fun w hst => x_field_e z underlying84 z sizeOf5 z) ?_
 refine wq_run (v := .int .u8 x418.Kind) ((wanted_eq z z z (cvb hc441)).trans z) z (fun w hst => x_load z isAgg5 ((hc425 (HL.le.refl _) hst) 2 _ z)) ?_
 refine wq_run (v := r1_0) ((wanted_eq z z z (cvb hc441)).trans z) z (fun w hst => z) ?_
 refine wq_run (v := .int .i64 z408) ((wanted_eq z z z (cvb hc441)).trans z) z (fun w hst => z) ?_
 refine wq_run (v := .pointer (some (eAddr r1_0 (z408.toNat * 4 + 0)))) ((wanted_eq z z z (cvb hc441)).trans z) z (fun w hst => x_index z z underlying26 sizeOf84 (rd_sliceV f1_0) h431 h432) ?_
 refine wq_run (v := .pointer (some (eAddr r1_0 (z408.toNat * 4 + 2)))) ((wanted_eq z z z (cvb hc441)).trans z) z (fun w hst => x_field_e z underlying84 z sizeOf5 z) ?_
 refine wq_run (v := .int .u8 x429.Kind) ((wanted_eq z z z (cvb hc441)).trans z) z (fun w hst => x_load z isAgg5 ((hc436 (HL.le.refl _) hst) 2 _ z)) ?_
 refine wq_run (v := .bool (x418.Kind != x429.Kind)) ((wanted_eq z z z (cvb hc441)).trans z) z (fun w hst => z) ?_
 refine wq_run (v := .bool (x418.Kind != x429.Kind)) z z (fun w hst => x_pick_f hc441 z z) ?_
 refine wq_run (v := .bool (x418.Kind != x429.Kind)) z z (fun w hst => z) ?_
 refine bsplit (x418.Kind != x429.Kind) (fun hc442 => ?_) (fun hc442 => ?_)
 {
 replace hm := bif_t hc442 hm
 refine wq_off ((wanted_eq z z z (cvb hc442)).trans z) z ?_
 refine wq_off ((wanted_eq z z z (cvb hc442)).trans z) z ?_
 refine wq_off ((wanted_eq z z z (cvb hc442)).trans z) z ?_
 refine wq_off ((wanted_eq z z z (cvb hc442)).trans z) z ?_
 refine wq_off ((wanted_eq z z z (cvb hc442)).trans z) z ?_
 refine wq_off ((wanted_eq z z z (cvb hc442)).trans z) z ?_
 refine wq_off ((wanted_eq z z z (cvb hc442)).trans z) z ?_
 refine wq_off ((wanted_eq z z z (cvb hc442)).trans z) z ?_
 refine wq_off ((wanted_eq z z z (cvb hc442)).trans z) z ?_
 refine wq_off ((wanted_eq z z z (cvb hc442)).trans z) z ?_
 refine wq_off ((wanted_eq z z z (cvb hc442)).trans z) z ?_
 refine wq_off ((wanted_eq z z z (cvb hc442)).trans z) z ?_
 refine wq_off ((wanted_eq z z z (cvb hc442)).trans z) z ?_
 refine wq_run (v := .bool true) z z (fun w hst => x_pick_t hc442 z z) ?_
 refine wq_nil ?_
 intro w hst
 refine tn ?_
 refine wp_ift z ?_
 refine wp_seq (wrl (wv (.bool false) z z z (wl_nil (tn (wp_ret (blk_r (then_r (then_r ?_))))))))
 replace hm := inr_up hm hx415
 refine blk_r (then_r ?_)
 obtain rfl := some_inj hm
 refine post_ret (vs := [.bool false]) results41 (rvs_cons (rv_tmp z) rvs_nil) ?_
 exact ⟨z, hst.keep0⟩
}
 {
 replace hm := bif_f hc442 hm
 refine wq_run (v := r0_0) ((wanted_eq z z z (cvb hc442)).trans z) z (fun w hst => z) ?_
 refine wq_run (v := .int .i64 z408) ((wanted_eq z z z (cvb hc442)).trans z) z (fun w hst => z) ?_
 refine wq_run (v := .pointer (some (eAddr r0_0 (z408.toNat * 4 + 0)))) ((wanted_eq z z z (cvb hc442)).trans z) z (fun w hst => x_index z z underlying26 sizeOf84 (rd_sliceV f0_0) h420 h421) ?_
 refine wq_run (v := .pointer (some (eAddr r0_0 (z408.toNat * 4 + 3)))) ((wanted_eq z z z (cvb hc442)).trans z) z (fun w hst => x_field_e z underlying84 z sizeOf22 z) ?_
 refine wq_run (v := v426) ((wanted_eq z z z (cvb hc442)).trans z) z (fun w hst => x_load z isAgg22 ((hc425 (HL.le.refl _) hst) 3 _ z)) ?_
 refine wq_run (v := .string (toStr x418.Data)) ((wanted_eq z z z (cvb hc442)).trans z) z (fun w hst => x_tostr underlying22 underlying9 underlying5 z (Src.of_rd hst f427 flat_int)) ?_
 refine wq_run (v := r1_0) ((wanted_eq z z z (cvb hc442)).trans z) z (fun w hst => z) ?_
 refine wq_run (v := .int .i64 z408) ((wanted_eq z z z (cvb hc442)).trans z) z (fun w hst => z) ?_
 refine wq_run (v := .pointer (some (eAddr r1_0 (z408.toNat * 4 + 0)))) ((wanted_eq z z z (cvb hc442)).trans z) z (fun w hst => x_index z z underlying26 sizeOf84 (rd_sliceV f1_0) h431 h432) ?_
 refine wq_run (v := .pointer (some (eAddr r1_0 (z408.toNat * 4 + 3)))) ((wanted_eq z z z (cvb hc442)).trans z) z (fun w hst => x_field_e z underlying84 z sizeOf22 z) ?_
 refine wq_run (v := v437) ((wanted_eq z z z (cvb hc442)).trans z) z (fun w hst => x_load z isAgg22 ((hc436 (HL.le.refl _) hst) 3 _ z)) ?_
 refine wq_run (v := .string (toStr x429.Data)) ((wanted_eq z z z (cvb hc442)).trans z) z (fun w hst => x_tostr underlying22 underlying9 underlying5 z (Src.of_rd hst f438 flat_int)) ?_
 refine wq_run (v := .bool (!(sEq (toStr x418.Data) (toStr x429.Data)))) ((wanted_eq z z z (cvb hc442)).trans z) z (fun w hst => by kernel_rfl) ?_
 refine wq_run (v := .bool (!(sEq (toStr x418.Data) (toStr x429.Data)))) z z (fun w hst => x_pick_f hc442 z z) ?_
 refine wq_nil ?_
 intro w hst
 refine tn ?_
 refine bsplit (!(sEq (toStr x418.Data) (toStr x429.Data))) (fun hc443 => ?_) (fun hc443 => ?_)
 {
 replace hm := bif_t hc443 hm
 refine wp_ift (cvb hc443) ?_
 refine wp_seq (wrl (wv (.bool false) z z z (wl_nil (tn (wp_ret (blk_r (then_r (then_r ?_))))))))
 replace hm := inr_up hm hx415
 refine blk_r (then_r ?_)
 obtain rfl := some_inj hm
 refine post_ret (vs := [.bool false]) results41 (rvs_cons (rv_tmp z) rvs_nil) ?_
 exact ⟨z, hst.keep0⟩
}
 {
 replace hm := bif_f hc443 hm
 refine wp_iff (cvb hc443) ?_
 refine wp_skip (blk_n (tn (wrl ?_)))
 refine wv (.int .i64 z408) z z z (wv (.int .i64 (i64.wrap (z408 + (1:Int)))) z z z (wv (.int .i64 (i64.wrap (z408 + (1:Int)))) z z z (wl_nil (tn ?_))))
 replace hst := hst.keep0
 obtain rfl := some_inj hm
 exact ⟨_, Nat.lt_succ_self _, (i64.wrap (z408 + (1:Int))), _, hx415, (fu 0 r0_0 z (fu 1 r1_0 z (fu 5 (.int .i64 (i64.wrap (z408 + (1:Int)))) z z))), hst⟩
}
}
}
}
}
 {
 replace hm := bif_f hc417 hm
 refine wp_iff (cvb hc417) ?_
 refine wp_exit (then_x (then_x ?_))
 replace hm := inr_up hm hx415
 refine blk_x (tn (wp_seq (wrl ?_)))
 refine wv (.bool true) z z z (wl_nil (tn (wp_ret ?_)))
 obtain rfl := some_inj hm
 refine post_ret (vs := [.bool true]) results41 (rvs_cons (rv_tmp z) rvs_nil) ?_
 exact ⟨z, hst.keep0⟩
}
}
}

theorem math_Signbit_ref {w0 w : World} {I : HL} {R : SP} {a0 : Nat}  (hst : St w0 w I [] R) {r : (Bool)} (hm : math_Signbit a0 = some r) :
  Calls prog 72 #[F6 a0] w fun e w' => e = .returned (.bool r) ∧ St w0 w' I [] R := by {
 unfold math_Signbit at hm
 refine calls_start (args := [F6 a0]) func72 z ntmps72 (Nat.le_of_ble_eq_true z) ?_
 refine wp_seq (wrl (wv (.bool false) z z z (wl_nil (tn (wp_seq (wrl (wv (.float .f64 a0) z z z (wv (.int .u64 (Int.ofNat a0)) z z (by kernel_rfl) (wv (.int .i64 (i64.wrap (Int.ofNat a0))) z z (by kernel_rfl) (wv (.bool (decide ((i64.wrap (Int.ofNat a0)) < (0:Int)))) z z z (wv (.bool (decide ((i64.wrap (Int.ofNat a0)) < (0:Int)))) z z z (wl_nil (tn (wp_ret ?_))))))))))))))
 obtain rfl := some_inj hm
 refine post_ret (vs := [.bool (decide ((i64.wrap (Int.ofNat a0)) < (0:Int)))]) results72 (rvs_cons (rv_tmp z) rvs_nil) ?_
 exact ⟨z, hst.keep0⟩
}

theorem ref01_Ahead_ref {w0 w : World} {I : HL} {R : SP} {a0 : Nat} {a1 : Nat}  (hst : St w0 w I [] R) {r : (Bool)} (hm : ref01_Ahead a0 a1 = some r) :
  Calls prog 71 #[F6 a0, F6 a1] w fun e w' => e = .returned (.bool r) ∧ St w0 w' I [] R := by {
 unfold ref01_Ahead at hm
 refine calls_start (args := [F6 a0, F6 a1]) func71 z ntmps71 (Nat.le_of_ble_eq_true z) ?_
 refine wp_seq (wrl (wv (.bool false) z z z (wl_nil (tn (wp_seq (wp_seq (wrl (wv (.float .f64 a0) z z z (wv (.float .f64 a0) z z z (wv (.bool (fNe a0 a0)) z z z (wl_nil (tn ?_))))))))))))
 refine bsplit (fNe a0 a0) (fun hc311 => ?_) (fun hc311 => ?_)
 {
 replace hm := bif_t hc311 hm
 refine wp_ift (cvb hc311) ?_
 refine wp_seq (wrl (wv (.bool false) z z z (wl_nil (tn (wp_ret (then_r ?_))))))
 obtain rfl := some_inj hm
 refine post_ret (vs := [.bool false]) results71 (rvs_cons (rv_tmp z) rvs_nil) ?_
 exact ⟨z, hst.keep0⟩
}
 {
 replace hm := bif_f hc311 hm
 refine wp_iff (cvb hc311) ?_
 refine wp_skip (tn (wp_seq (wp_seq (wrl ?_))))
 refine wv (.float .f64 a1) z z z (wv (.float .f64 a1) z z z (wv (.bool (fNe a1 a1)) z z z (wl_nil (tn ?_))))
 refine bsplit (fNe a1 a1) (fun hc312 => ?_) (fun hc312 => ?_)
 {
 replace hm := bif_t hc312 hm
 refine wp_ift (cvb hc312) ?_
 refine wp_seq (wrl (wv (.bool true) z z z (wl_nil (tn (wp_ret (then_r ?_))))))
 obtain rfl := some_inj hm
 refine post_ret (vs := [.bool true]) results71 (rvs_cons (rv_tmp z) rvs_nil) ?_
 exact ⟨z, hst.keep0⟩
}
 {
 replace hm := bif_f hc312 hm
 refine wp_iff (cvb hc312) ?_
 refine wp_skip (tn ?_)
 obtain ⟨y328, hm, hx329⟩ := joinO_some hm
 refine wp_cut (fun a w => ∃ (σ326 : Nat → Value), (ref01_Ahead_j0 a0 a1) () = some r ∧ a = Fr 27 (upd (upd σ326 0 (.float .f64 a0)) 1 (.float .f64 a1)) ∧ St w0 w I [] R) ?_ ?_
 {
 refine wp_seq (wrl (wv (.float .f64 a0) z z z (wv (.bool (fEq a0 (0:Nat))) z z z (wv (.bool (fEq a0 (0:Nat))) z z z ?_))))
 refine bsplit (fEq a0 (0:Nat)) (fun hc313 => ?_) (fun hc313 => ?_)
 {
 replace hm := bif_t hc313 hm
 refine wv (.float .f64 a1) ((wanted_eq z z z (cvb hc313)).trans z) z z (wv (.bool (fEq a1 (0:Nat))) ((wanted_eq z z z (cvb hc313)).trans z) z z (wv (.bool (fEq a1 (0:Nat))) z z (x_pick_t hc313 z z) (wl_nil (tn ?_))))
 refine bsplit (fEq a1 (0:Nat)) (fun hc314 => ?_) (fun hc314 => ?_)
 {
 replace hm := bif_t hc314 hm
 refine wp_ift (cvb hc314) ?_
 refine wp_seq (wrl (wv (.float .f64 a0) z z z ?_))
 obtain ⟨t315, ht316, hm⟩ := bind_some hm
 refine wc call72 [F6 a0] z z z ?_
 refine (math_Signbit_ref hst.to0 ht316).mono ?_
 rintro _ w317 ⟨rfl, hst⟩
 refine ⟨_, z, ?_⟩
 replace hst := hst.of0
 refine wv (.bool t315) z z z ?_
 refine bsplit t315 (fun hc320 => ?_) (fun hc320 => ?_)
 {
 replace hm := bif_t hc320 hm
 refine wv (.float .f64 a1) ((wanted_eq z z z (cvb hc320)).trans z) z z ?_
 obtain ⟨t321, ht322, hm⟩ := bind_some hm
 refine wl_call ((wanted_eq z z z (cvb hc320)).trans z) z (x_call call72 z (vs := [F6 a1]) z) ?_
 refine (math_Signbit_ref hst.to0 ht322).mono ?_
 rintro _ w323 ⟨rfl, hst⟩
 refine ⟨_, z, ?_⟩
 replace hst := hst.of0
 refine wv (.bool (!t321)) ((wanted_eq z z z (cvb hc320)).trans z) z z (wv (.bool (!t321)) z z (x_pick_t hc320 z z) (wv (.bool (!t321)) z z z (wl_nil (tn (wp_ret (then_r ?_))))))
 replace hm := inr_up hm hx329
 obtain rfl := some_inj hm
 refine post_ret (vs := [.bool (!t321)]) results71 (rvs_cons (rv_tmp z) rvs_nil) ?_
 exact ⟨z, hst.keep0⟩
}
 {
 replace hm := bif_f hc320 hm
 refine wo hc320 z z z z z z (wo hc320 z z z z z z (wo hc320 z z z z z z (wv (.bool false) z z (x_pick_f hc320 z z) (wv (.bool false) z z z (wl_nil (tn (wp_ret (then_r ?_))))))))
 replace hm := inr_up hm hx329
 obtain rfl := some_inj hm
 refine post_ret (vs := [.bool false]) results71 (rvs_cons (rv_tmp z) rvs_nil) ?_
 exact ⟨z, hst.keep0⟩
}
}
 {
 replace hm := bif_f hc314 hm
 refine wp_iff (cvb hc314) ?_
 refine wp_skip (tn ?_)
 replace hst := hst.keep0
 obtain rfl := some_inj hm
 exact ⟨_, hx329, (fu 0 (.float .f64 a0) z (fu 1 (.float .f64 a1) z z)), hst⟩
}
}
 {
 replace hm := bif_f hc313 hm
 refine wo hc313 z z z z z z (wo hc313 z z z z z z (wv (.bool false) z z (x_pick_f hc313 z z) (wl_nil (tn ?_))))
 refine wp_iff z ?_
 refine wp_skip (tn ?_)
 replace hst := hst.keep0
 obtain rfl := some_inj hm
 exact ⟨_, hx329, (fu 0 (.float .f64 a0) z (fu 1 (.float .f64 a1) z z)), hst⟩
}
}
 {
 clear hst
 rintro _ w330 ⟨σ326, hm, rfl, hst⟩
 dsimp only [ref01_Ahead_j0] at hm
 refine wp_seq (wrl (wv (.float .f64 a0) z z z (wv (.float .f64 a1) z z z (wv (.bool (fLt a0 a1)) z z z (wv (.bool (fLt a0 a1)) z z z (wl_nil (tn (wp_ret ?_))))))))
 obtain rfl := some_inj hm
 refine post_ret (vs := [.bool (fLt a0 a1)]) results71 (rvs_cons (rv_tmp z) rvs_nil) ?_
 exact ⟨z, hst.keep0⟩
}
}
}
}

theorem ref01_Same_ref {w0 w : World} {I : HL} {R : SP} {a0 : Nat} {a1 : Nat}  (hst : St w0 w I [] R) {r : (Bool)} (hm : ref01_Same a0 a1 = some r) :
  Calls prog 64 #[F6 a0, F6 a1] w fun e w' => e = .returned (.bool r) ∧ St w0 w' I [] R := by {
 unfold ref01_Same at hm
 refine calls_start (args := [F6 a0, F6 a1]) func64 z ntmps64 (Nat.le_of_ble_eq_true z) ?_
 refine wp_seq (wrl (wv (.bool false) z z z (wl_nil (tn (wp_seq (wrl (wv (.float .f64 a0) z z z (wv (.float .f64 a1) z z z ?_))))))))
 obtain ⟨t302, ht303, hm⟩ := bind_some hm
 refine wc call71 [F6 a0, F6 a1] z z z ?_
 refine (ref01_Ahead_ref hst.to0 ht303).mono ?_
 rintro _ w304 ⟨rfl, hst⟩
 refine ⟨_, z, ?_⟩
 replace hst := hst.of0
 refine wv (.bool (!t302)) z z z (wv (.bool (!t302)) z z z ?_)
 refine bsplit (!t302) (fun hc307 => ?_) (fun hc307 => ?_)
 {
 replace hm := bif_t hc307 hm
 refine wv (.float .f64 a1) ((wanted_eq z z z (cvb hc307)).trans z) z z (wv (.float .f64 a0) ((wanted_eq z z z (cvb hc307)).trans z) z z ?_)
 obtain ⟨t308, ht309, hm⟩ := bind_some hm
 refine wl_call ((wanted_eq z z z (cvb hc307)).trans z) z (x_call call71 z (vs := [F6 a1, F6 a0]) z) ?_
 refine (ref01_Ahead_ref hst.to0 ht309).mono ?_
 rintro _ w310 ⟨rfl, hst⟩
 refine ⟨_, z, ?_⟩
 replace hst := hst.of0
 refine wv (.bool (!t308)) ((wanted_eq z z z (cvb hc307)).trans z) z z (wv (.bool (!t308)) z z (x_pick_t hc307 z z) (wv (.bool (!t308)) z z z (wl_nil (tn (wp_ret ?_)))))
 obtain rfl := some_inj hm
 refine post_ret (vs := [.bool (!t308)]) results64 (rvs_cons (rv_tmp z) rvs_nil) ?_
 exact ⟨z, hst.keep0⟩
}
 {
 replace hm := bif_f hc307 hm
 refine wo hc307 z z z z z z (wo hc307 z z z z z z (wo hc307 z z z z z z (wo hc307 z z z z z z (wv (.bool false) z z (x_pick_f hc307 z z) (wv (.bool false) z z z (wl_nil (tn (wp_ret ?_))))))))
 obtain rfl := some_inj hm
 refine post_ret (vs := [.bool false]) results64 (rvs_cons (rv_tmp z) rvs_nil) ?_
 exact ⟨z, hst.keep0⟩
}
}

end Go.Proofs.Ytldfdainhdiffaa
