/- The Go functions refine their models, part 2. -/
import Derived.Test.YtldfdainhdiffaaMailApartR1
set_option linter.unusedVariables false
set_option linter.unusedSimpArgs false
set_option maxRecDepth 100000
set_option maxHeartbeats 4000000
namespace Go.Proofs.Ytldfdainhdiffaa
open Go Go.V
open _root_.Go.Proofs.Try IntKind
attribute [local irreducible] wpList Code.wp wpQuiet Calls bodyPost Oper.wp wpS Nx PendOK YieldsIn
theorem ref13_Message_ref {w0 w : World} {I : HL} {R : SP} {a0 : (List Int)} {r0_0 : Value} {a1 : api_Message} {r1_0 : Value} {r1_1 : Value} (f0_0 : Rd (tyInt .u8) R I r0_0 a0) (f1_0 : Rd ty_api_Entry R I r1_0 a1.Entries) (f1_1 : Rd (tyInt .u8) R I r1_1 a1.S.Data) (hst : St w0 w I [] R) {r : ((List Int))} (hm : ref13_Message a0 a1 = some r) :
  Calls prog 35 #[r0_0, .agg #[U1 a1.Kind, I6 a1.From, I6 a1.To, U6 a1.Term, U6 a1.Index, U6 a1.LogTerm, U6 a1.Commit, .bool a1.OK, r1_0, U6 a1.S.Index, U6 a1.S.Term, U6 a1.S.Voters, r1_1]] w fun e w' => ∃ (q0_0 : Value), e = .returned (q0_0) ∧ St w0 w' I [ownS (tyInt .u8) q0_0 r] R := by {
 unfold ref13_Message at hm
 refine calls_start (args := [r0_0, .agg #[U1 a1.Kind, I6 a1.From, I6 a1.To, U6 a1.Term, U6 a1.Index, U6 a1.LogTerm, U6 a1.Commit, .bool a1.OK, r1_0, U6 a1.S.Index, U6 a1.S.Term, U6 a1.S.Voters, r1_1]]) func35 z ntmps35 (Nat.le_of_ble_eq_true z) ?_
 refine wp_seq (wrl ?_)
 obtain ⟨b548, w549, ew550, eb551, hst⟩ := hst.box [U1 a1.Kind, I6 a1.From, I6 a1.To, U6 a1.Term, U6 a1.Index, U6 a1.LogTerm, U6 a1.Commit, .bool a1.OK, r1_0, U6 a1.S.Index, U6 a1.S.Term, U6 a1.S.Voters, r1_1] 30
 refine wl_run (v := Pt b548 0) (w' := w549) z z (x_al (by kernel_rfl) ew550 eb551) ?_
 refine wv ((.slice none 0 0)) z z z (wl_nil (tn (wp_seq (wrl (wv (r0_0) z z z (wv (Pt b548 0) z z (x_field z underlying30 z sizeOf5 z) (wv (.int .u8 a1.Kind) z z (x_load z isAgg5 (hst.bc0 z)) (wv (.int .u64 (u64.wrap a1.Kind)) z z (by kernel_rfl) ?_))))))))
 obtain ⟨t554, ht555, hm⟩ := bind_some hm
 refine wc call34 [r0_0, U6 (u64.wrap a1.Kind), I6 (1:Int)] z z z ?_
 refine (ref02_Num_ref (f0_0.mono (rd_weak _)) hst.to0 ht555).mono ?_
 rintro _ w556 ⟨v559, rfl, hst⟩
 refine ⟨_, z, ?_⟩
 replace hst := hst.of1
 refine wv (v559) z z z (wl_nil (tn (wp_seq ?_)))
 refine wp_region_St hst 10 [0, 1, 2, 3, 4, 5, 6, 7, 8, 9] [0, 0, 2, 6, 15, 0, 32, 96, 255, 511] [9] z (by kernel_rfl) (by kernel_rfl) Try.mixed (by kernel_rfl) ?_
 refine wsr (v559) 0 z z z (by kernel_rfl) (fun w hst => z) (wsr (Pt b548 1) 1 z z z (by kernel_rfl) (fun w hst => x_field z underlying30 z sizeOf3 z) (wsr (.int .i64 a1.From) 2 z z z (by kernel_rfl) (fun w hst => x_load z isAgg3 (hst.bc1 z)) (wsr (.int .u64 (u64.wrap a1.From)) 3 z z z (by kernel_rfl) (fun w hst => by kernel_rfl) (wsr (Pt b548 2) 5 z z z (by kernel_rfl) (fun w hst => x_field z underlying30 z sizeOf3 z) (wsr (.int .i64 a1.To) 6 z z z (by kernel_rfl) (fun w hst => x_load z isAgg3 (hst.bc1 z)) (wsr (.int .u64 (u64.wrap a1.To)) 7 z z z (by kernel_rfl) (fun w hst => by kernel_rfl) ?_))))))
 refine ws_e1 4 (by kernel_rfl) ?_
 refine nxe [8, 9] (by kernel_rfl) z z ?_
 clear hst
 intro w hst
 obtain ⟨css561, hq562, hst⟩ := hst.own_open
 obtain ⟨t563, ht564, hm⟩ := bind_some hm
 refine wec call34 [v559, U6 (u64.wrap a1.From), I6 (1:Int)] z z ?_
 refine (ref02_Num_ref (hst.rdrow0 hq562) hst.to0 ht564).mono ?_
 rintro _ w565 ⟨v568, rfl, hst⟩
 refine ⟨_, z, ?_⟩
 replace hst := hst.of1.pull1.own_close hq562
 refine ws_next (pend' := [(7, U6 (u64.wrap a1.To)), (6, I6 a1.To), (5, Pt b548 2)]) hst (by kernel_rfl) (pkr z z (fun w hst => by kernel_rfl) (pkr z z (fun w hst => x_load z isAgg3 (hst.bc2 z)) (pkr z z (fun w hst => x_field z underlying30 z sizeOf3 z) pk_nil))) ?_
 refine ws_e1 8 (by kernel_rfl) ?_
 refine nxe [9] (by kernel_rfl) z z ?_
 clear hst
 intro w hst
 replace hst := hst.pull1
 obtain ⟨css570, hq571, hst⟩ := hst.own_open
 obtain ⟨t572, ht573, hm⟩ := bind_some hm
 refine wec call34 [v568, U6 (u64.wrap a1.To), I6 (1:Int)] z z ?_
 refine (ref02_Num_ref (hst.rdrow0 hq571) hst.to0 ht573).mono ?_
 rintro _ w574 ⟨v577, rfl, hst⟩
 refine ⟨_, z, ?_⟩
 replace hst := hst.of1.pull1.own_close hq571
 refine ws_next (pend' := []) hst (by kernel_rfl) pk_nil ?_
 refine ws_e1 9 (by kernel_rfl) ?_
 refine nxe [] (by kernel_rfl) z z ?_
 clear hst
 intro w hst
 refine we_run (v := v577) (w' := w) z z ?_
 refine ws_next (pend' := []) hst (by kernel_rfl) pk_nil ?_
 refine ws_nil ?_
 intro w hst
 refine tn (wp_seq ?_)
 refine wp_region_St hst 8 [0, 1, 2, 3, 4, 5, 6, 7] [0, 0, 2, 7, 0, 16, 63, 127] [7] z (by kernel_rfl) (by kernel_rfl) Try.mixed (by kernel_rfl) ?_
 refine wsr (v577) 0 z z z (by kernel_rfl) (fun w hst => z) (wsr (Pt b548 3) 1 z z z (by kernel_rfl) (fun w hst => x_field z underlying30 z sizeOf25 z) (wsr (.int .u64 a1.Term) 2 z z z (by kernel_rfl) (fun w hst => x_load z isAgg25 (hst.bc3 z)) (wsr (Pt b548 4) 4 z z z (by kernel_rfl) (fun w hst => x_field z underlying30 z sizeOf25 z) (wsr (.int .u64 a1.Index) 5 z z z (by kernel_rfl) (fun w hst => x_load z isAgg25 (hst.bc3 z)) ?_))))
 refine ws_e1 3 (by kernel_rfl) ?_
 refine nxe [6, 7] (by kernel_rfl) z z ?_
 clear hst
 intro w hst
 replace hst := hst.pull1
 obtain ⟨css579, hq580, hst⟩ := hst.own_open
 obtain ⟨t581, ht582, hm⟩ := bind_some hm
 refine wec call34 [v577, U6 a1.Term, I6 (8:Int)] z z ?_
 refine (ref02_Num_ref (hst.rdrow0 hq580) hst.to0 ht582).mono ?_
 rintro _ w583 ⟨v586, rfl, hst⟩
 refine ⟨_, z, ?_⟩
 replace hst := hst.of1.pull1.own_close hq580
 refine ws_next (pend' := [(5, U6 a1.Index), (4, Pt b548 4)]) hst (by kernel_rfl) (pkr z z (fun w hst => x_load z isAgg25 (hst.bc4 z)) (pkr z z (fun w hst => x_field z underlying30 z sizeOf25 z) pk_nil)) ?_
 refine ws_e1 6 (by kernel_rfl) ?_
 refine nxe [7] (by kernel_rfl) z z ?_
 clear hst
 intro w hst
 replace hst := hst.pull1
 obtain ⟨css588, hq589, hst⟩ := hst.own_open
 obtain ⟨t590, ht591, hm⟩ := bind_some hm
 refine wec call34 [v586, U6 a1.Index, I6 (8:Int)] z z ?_
 refine (ref02_Num_ref (hst.rdrow0 hq589) hst.to0 ht591).mono ?_
 rintro _ w592 ⟨v595, rfl, hst⟩
 refine ⟨_, z, ?_⟩
 replace hst := hst.of1.pull1.own_close hq589
 refine ws_next (pend' := []) hst (by kernel_rfl) pk_nil ?_
 refine ws_e1 7 (by kernel_rfl) ?_
 refine nxe [] (by kernel_rfl) z z ?_
 clear hst
 intro w hst
 refine we_run (v := v595) (w' := w) z z ?_
 refine ws_next (pend' := []) hst (by kernel_rfl) pk_nil ?_
 refine ws_nil ?_
 intro w hst
 refine tn (wp_seq ?_)
 refine wp_region_St hst 8 [0, 1, 2, 3, 4, 5, 6, 7] [0, 0, 2, 7, 0, 16, 63, 127] [7] z (by kernel_rfl) (by kernel_rfl) Try.mixed (by kernel_rfl) ?_
 refine wsr (v595) 0 z z z (by kernel_rfl) (fun w hst => z) (wsr (Pt b548 5) 1 z z z (by kernel_rfl) (fun w hst => x_field z underlying30 z sizeOf25 z) (wsr (.int .u64 a1.LogTerm) 2 z z z (by kernel_rfl) (fun w hst => x_load z isAgg25 (hst.bc5 z)) (wsr (Pt b548 6) 4 z z z (by kernel_rfl) (fun w hst => x_field z underlying30 z sizeOf25 z) (wsr (.int .u64 a1.Commit) 5 z z z (by kernel_rfl) (fun w hst => x_load z isAgg25 (hst.bc5 z)) ?_))))
 refine ws_e1 3 (by kernel_rfl) ?_
 refine nxe [6, 7] (by kernel_rfl) z z ?_
 clear hst
 intro w hst
 replace hst := hst.pull1
 obtain ⟨css597, hq598, hst⟩ := hst.own_open
 obtain ⟨t599, ht600, hm⟩ := bind_some hm
 refine wec call34 [v595, U6 a1.LogTerm, I6 (8:Int)] z z ?_
 refine (ref02_Num_ref (hst.rdrow0 hq598) hst.to0 ht600).mono ?_
 rintro _ w601 ⟨v604, rfl, hst⟩
 refine ⟨_, z, ?_⟩
 replace hst := hst.of1.pull1.own_close hq598
 refine ws_next (pend' := [(5, U6 a1.Commit), (4, Pt b548 6)]) hst (by kernel_rfl) (pkr z z (fun w hst => x_load z isAgg25 (hst.bc6 z)) (pkr z z (fun w hst => x_field z underlying30 z sizeOf25 z) pk_nil)) ?_
 refine ws_e1 6 (by kernel_rfl) ?_
 refine nxe [7] (by kernel_rfl) z z ?_
 clear hst
 intro w hst
 replace hst := hst.pull1
 obtain ⟨css606, hq607, hst⟩ := hst.own_open
 obtain ⟨t608, ht609, hm⟩ := bind_some hm
 refine wec call34 [v604, U6 a1.Commit, I6 (8:Int)] z z ?_
 refine (ref02_Num_ref (hst.rdrow0 hq607) hst.to0 ht609).mono ?_
 rintro _ w610 ⟨v613, rfl, hst⟩
 refine ⟨_, z, ?_⟩
 replace hst := hst.of1.pull1.own_close hq607
 refine ws_next (pend' := []) hst (by kernel_rfl) pk_nil ?_
 refine ws_e1 7 (by kernel_rfl) ?_
 refine nxe [] (by kernel_rfl) z z ?_
 clear hst
 intro w hst
 refine we_run (v := v613) (w' := w) z z ?_
 refine ws_next (pend' := []) hst (by kernel_rfl) pk_nil ?_
 refine ws_nil ?_
 intro w hst
 refine tn (wp_seq ?_)
 refine wp_region_St hst 10 [0, 1, 2, 3, 4, 5, 6, 7, 8, 9] [0, 0, 2, 7, 0, 16, 48, 112, 255, 511] [9] z (by kernel_rfl) (by kernel_rfl) Try.mixed (by kernel_rfl) ?_
 refine wsr (v613) 0 z z z (by kernel_rfl) (fun w hst => z) (wsr (Pt b548 7) 1 z z z (by kernel_rfl) (fun w hst => x_field z underlying30 z sizeOf4 z) (wsr (.bool a1.OK) 2 z z z (by kernel_rfl) (fun w hst => x_load z isAgg4 (hst.bc7 z)) (wsr (Pt b548 8) 4 z z z (by kernel_rfl) (fun w hst => x_field z underlying30 z sizeOf26 z) (wsr (r1_0) 5 z z z (by kernel_rfl) (fun w hst => x_load z isAgg26 (hst.bc7 z)) (wsr (.int .i64 ((a1.Entries).length : Int)) 6 z z z (by kernel_rfl) (fun w hst => x_len z underlying26 (rd_sliceV f1_0)) (wsr (.int .u64 (u64.wrap ((a1.Entries).length : Int))) 7 z z z (by kernel_rfl) (fun w hst => by kernel_rfl) ?_))))))
 refine ws_e1 3 (by kernel_rfl) ?_
 refine nxe [8, 9] (by kernel_rfl) z z ?_
 clear hst
 intro w hst
 replace hst := hst.pull1
 obtain ⟨css615, hq616, hst⟩ := hst.own_open
 obtain ⟨t617, ht618, hm⟩ := bind_some hm
 refine wec call60 [v613, .bool a1.OK] z z ?_
 refine (ref02_Flag_ref (hst.rdrow0 hq616) hst.to0 ht618).mono ?_
 rintro _ w619 ⟨v622, rfl, hst⟩
 refine ⟨_, z, ?_⟩
 replace hst := hst.of1.pull1.own_close hq616
 refine ws_next (pend' := [(7, U6 (u64.wrap ((a1.Entries).length : Int))), (6, I6 ((a1.Entries).length : Int)), (5, r1_0), (4, Pt b548 8)]) hst (by kernel_rfl) (pkr z z (fun w hst => by kernel_rfl) (pkr z z (fun w hst => x_len z underlying26 (rd_sliceV f1_0)) (pkr z z (fun w hst => x_load z isAgg26 (hst.bc8 z)) (pkr z z (fun w hst => x_field z underlying30 z sizeOf26 z) pk_nil)))) ?_
 refine ws_e1 8 (by kernel_rfl) ?_
 refine nxe [9] (by kernel_rfl) z z ?_
 clear hst
 intro w hst
 replace hst := hst.pull1
 obtain ⟨css624, hq625, hst⟩ := hst.own_open
 obtain ⟨t626, ht627, hm⟩ := bind_some hm
 refine wec call34 [v622, U6 (u64.wrap ((a1.Entries).length : Int)), I6 (4:Int)] z z ?_
 refine (ref02_Num_ref (hst.rdrow0 hq625) hst.to0 ht627).mono ?_
 rintro _ w628 ⟨v631, rfl, hst⟩
 refine ⟨_, z, ?_⟩
 replace hst := hst.of1.pull1.own_close hq625
 refine ws_next (pend' := []) hst (by kernel_rfl) pk_nil ?_
 refine ws_e1 9 (by kernel_rfl) ?_
 refine nxe [] (by kernel_rfl) z z ?_
 clear hst
 intro w hst
 refine we_run (v := v631) (w' := w) z z ?_
 refine ws_next (pend' := []) hst (by kernel_rfl) pk_nil ?_
 refine ws_nil ?_
 intro w hst
 refine tn ?_
 obtain ⟨y822, hm, hx823⟩ := bind_some hm
 refine wp_cut (fun a w => ∃ (z819 : (List Int)) (v818 : Value) (σ820 : Nat → Value), (ref13_Message_j0 a1) z819 = some r ∧ a = Fr 89 (upd (upd σ820 0 (v818)) 3 (Pt b548 0)) ∧ St w0 w I [ownS (tyInt .u8) v818 z819, cells b548 [U1 a1.Kind, I6 a1.From, I6 a1.To, U6 a1.Term, U6 a1.Index, U6 a1.LogTerm, U6 a1.Commit, .bool a1.OK, r1_0, U6 a1.S.Index, U6 a1.S.Term, U6 a1.S.Voters, r1_1]] R) ?_ ?_
 {
 refine wp_seq (wrl (wv (.int .i64 (0:Int)) z z z (wl_nil (tn (wp_block ?_)))))
 replace hst := hst.sub.pull1.sub.pull1.sub.pull1.sub.pull1.sub.pull1.sub.pull1.sub.pull1.sub
 obtain ⟨n754, hm⟩ := loopO_some hm
 refine wp_loop_n (fun n a w => ∃ (z749 : (List Int)) (z752 : Int) (v750 : Value) (σ753 : Nat → Value), loopN (ref13_Message_l1 a1) n (z749, z752) = some y822 ∧ a = Fr 89 (upd (upd (upd σ753 0 (v750)) 3 (Pt b548 0)) 5 (.int .i64 z752)) ∧ St w0 w I [ownS (tyInt .u8) v750 z749, cells b548 [U1 a1.Kind, I6 a1.From, I6 a1.To, U6 a1.Term, U6 a1.Index, U6 a1.LogTerm, U6 a1.Commit, .bool a1.OK, r1_0, U6 a1.S.Index, U6 a1.S.Term, U6 a1.S.Voters, r1_1]] R) n754 ⟨t626, (0:Int), v631, _, hm, (fu 0 v631 z (fu 3 (Pt b548 0) z (fu 5 (.int .i64 (0:Int)) z z))), hst⟩ ?_
 rintro n760 _ w755 ⟨z749, z752, v750, σ753, hm, rfl, hst⟩
 obtain ⟨n757, y758, rfl, hm, hx759⟩ := loopN_some hm
 dsimp only [ref13_Message_l1] at hm
 refine wp_seq (wp_seq (wrl (wv (.int .i64 z752) z z z (wv (Pt b548 8) z z (x_field z underlying30 z sizeOf26 z) (wv (r1_0) z z (x_load z isAgg26 (hst.bc1 z)) (wv (.int .i64 ((a1.Entries).length : Int)) z z (x_len z underlying26 (rd_sliceV f1_0)) (wv (.bool (decide (z752 < ((a1.Entries).length : Int)))) z z z (wl_nil (tn ?_)))))))))
 refine bsplit (decide (z752 < ((a1.Entries).length : Int))) (fun hc761 => ?_) (fun hc761 => ?_)
 {
 replace hm := bif_t hc761 hm
 refine wp_ift (cvb hc761) ?_
 refine wp_skip (tn (wp_seq (wp_block (wp_seq (wrl ?_)))))
 refine wv (Pt b548 8) z z (x_field z underlying30 z sizeOf26 z) (wv (r1_0) z z (x_load z isAgg26 (hst.bc1 z)) (wv (.int .i64 z752) z z z ?_))
 obtain ⟨x762, hx763, hm⟩ := bind_some hm
 obtain ⟨h764, h765, hi766⟩ := geto_some hx763
 refine wv (.pointer (some (eAddr r1_0 (z752.toNat * 4 + 0)))) z z (x_index z z underlying26 sizeOf84 (rd_sliceV f1_0) h764 h765) ?_
 obtain ⟨cs767, hr768, hc769⟩ := Rd.getF f1_0 hi766
 obtain ⟨v770, rfl, f771, -⟩ := hr768
 refine wv (.agg #[U6 x762.Index, U6 x762.Term, U1 x762.Kind, v770]) z z (x_loadN (cs := [U6 x762.Index, U6 x762.Term, U1 x762.Kind, v770]) z isAgg84 sizeOf84 (eCells (o := 0) (hc769 (HL.le.refl _) hst) z)) ?_
 obtain ⟨b774, w775, ew776, eb777, hst⟩ := hst.box [Zu, Zu, Zb, Zs] 84
 refine wl_run (v := Pt b774 0) (w' := w775) z z (x_al (by kernel_rfl) ew776 eb777) ?_
 obtain ⟨w779, hr780, hst⟩ := hst.bx [U6 x762.Index, U6 x762.Term, U1 x762.Kind, v770] sizeOf84 z (oC z (oC z (oC z (oC (one_of_sliceV (rd_sliceV f771)) oN)))) (by kernel_rfl)
 refine wl_unit z z (x_unit hr780) ?_
 refine wl_nil (tn (wp_seq ?_))
 refine wp_region_St hst 8 [0, 1, 2, 3, 4, 5, 6, 7] [0, 0, 2, 7, 0, 16, 63, 127] [7] z (by kernel_rfl) (by kernel_rfl) Try.mixed (by kernel_rfl) ?_
 refine wsr (v750) 0 z z z (by kernel_rfl) (fun w hst => z) (wsr (Pt b774 0) 1 z z z (by kernel_rfl) (fun w hst => x_field z underlying84 z sizeOf25 z) (wsr (.int .u64 x762.Index) 2 z z z (by kernel_rfl) (fun w hst => x_load z isAgg25 (hst.bc0 z)) (wsr (Pt b774 1) 4 z z z (by kernel_rfl) (fun w hst => x_field z underlying84 z sizeOf25 z) (wsr (.int .u64 x762.Term) 5 z z z (by kernel_rfl) (fun w hst => x_load z isAgg25 (hst.bc0 z)) ?_))))
 refine ws_e1 3 (by kernel_rfl) ?_
 refine nxe [6, 7] (by kernel_rfl) z z ?_
 clear hst
 intro w hst
 replace hst := hst.pull1
 obtain ⟨css781, hq782, hst⟩ := hst.own_open
 obtain ⟨t783, ht784, hm⟩ := bind_some hm
 refine wec call34 [v750, U6 x762.Index, I6 (8:Int)] z z ?_
 refine (ref02_Num_ref (hst.rdrow0 hq782) hst.to0 ht784).mono ?_
 rintro _ w785 ⟨v788, rfl, hst⟩
 refine ⟨_, z, ?_⟩
 replace hst := hst.of1.pull1.own_close hq782
 refine ws_next (pend' := [(5, U6 x762.Term), (4, Pt b774 1)]) hst (by kernel_rfl) (pkr z z (fun w hst => x_load z isAgg25 (hst.bc2 z)) (pkr z z (fun w hst => x_field z underlying84 z sizeOf25 z) pk_nil)) ?_
 refine ws_e1 6 (by kernel_rfl) ?_
 refine nxe [7] (by kernel_rfl) z z ?_
 clear hst
 intro w hst
 replace hst := hst.pull1
 obtain ⟨css790, hq791, hst⟩ := hst.own_open
 obtain ⟨t792, ht793, hm⟩ := bind_some hm
 refine wec call34 [v788, U6 x762.Term, I6 (8:Int)] z z ?_
 refine (ref02_Num_ref (hst.rdrow0 hq791) hst.to0 ht793).mono ?_
 rintro _ w794 ⟨v797, rfl, hst⟩
 refine ⟨_, z, ?_⟩
 replace hst := hst.of1.pull1.own_close hq791
 refine ws_next (pend' := []) hst (by kernel_rfl) pk_nil ?_
 refine ws_e1 7 (by kernel_rfl) ?_
 refine nxe [] (by kernel_rfl) z z ?_
 clear hst
 intro w hst
 refine we_run (v := v797) (w' := w) z z ?_
 refine ws_next (pend' := []) hst (by kernel_rfl) pk_nil ?_
 refine ws_nil ?_
 intro w hst
 refine tn ?_
 refine wp_region_St hst 9 [0, 1, 2, 3, 4, 5, 6, 7, 8] [0, 0, 2, 6, 15, 0, 32, 127, 255] [8] z (by kernel_rfl) (by kernel_rfl) Try.mixed (by kernel_rfl) ?_
 refine wsr (v797) 0 z z z (by kernel_rfl) (fun w hst => z) (wsr (Pt b774 2) 1 z z z (by kernel_rfl) (fun w hst => x_field z underlying84 z sizeOf5 z) (wsr (.int .u8 x762.Kind) 2 z z z (by kernel_rfl) (fun w hst => x_load z isAgg5 (hst.bc3 z)) (wsr (.int .u64 (u64.wrap x762.Kind)) 3 z z z (by kernel_rfl) (fun w hst => by kernel_rfl) (wsr (Pt b774 3) 5 z z z (by kernel_rfl) (fun w hst => x_field z underlying84 z sizeOf22 z) (wsr (v770) 6 z z z (by kernel_rfl) (fun w hst => x_load z isAgg22 (hst.bc3 z)) ?_)))))
 refine ws_e1 4 (by kernel_rfl) ?_
 refine nxe [7, 8] (by kernel_rfl) z z ?_
 clear hst
 intro w hst
 replace hst := hst.pull1
 obtain ⟨css799, hq800, hst⟩ := hst.own_open
 obtain ⟨t801, ht802, hm⟩ := bind_some hm
 refine wec call34 [v797, U6 (u64.wrap x762.Kind), I6 (1:Int)] z z ?_
 refine (ref02_Num_ref (hst.rdrow0 hq800) hst.to0 ht802).mono ?_
 rintro _ w803 ⟨v806, rfl, hst⟩
 refine ⟨_, z, ?_⟩
 replace hst := hst.of1.pull1.own_close hq800
 refine ws_next (pend' := [(6, v770), (5, Pt b774 3)]) hst (by kernel_rfl) (pkr z z (fun w hst => x_load z isAgg22 (hst.bc4 z)) (pkr z z (fun w hst => x_field z underlying84 z sizeOf22 z) pk_nil)) ?_
 refine ws_e1 7 (by kernel_rfl) ?_
 refine nxe [8] (by kernel_rfl) z z ?_
 clear hst
 intro w hst
 replace hst := hst.pull1
 obtain ⟨css808, hq809, hst⟩ := hst.own_open
 obtain ⟨t810, ht811, hm⟩ := bind_some hm
 refine wec call38 [v806, v770] z z ?_
 refine (ref02_Bytes_ref (hst.rdrow0 hq809) (f771.mono (rd_weak _)) hst.to0 ht811).mono ?_
 rintro _ w812 ⟨v815, rfl, hst⟩
 refine ⟨_, z, ?_⟩
 replace hst := hst.of1.pull1.own_close hq809
 refine ws_next (pend' := []) hst (by kernel_rfl) pk_nil ?_
 refine ws_e1 8 (by kernel_rfl) ?_
 refine nxe [] (by kernel_rfl) z z ?_
 clear hst
 intro w hst
 refine we_run (v := v815) (w' := w) z z ?_
 refine ws_next (pend' := []) hst (by kernel_rfl) pk_nil ?_
 refine ws_nil ?_
 intro w hst
 refine blk_n (tn (wrl ?_))
 refine wv (.int .i64 z752) z z z (wv (.int .i64 (i64.wrap (z752 + (1:Int)))) z z z (wv (.int .i64 (i64.wrap (z752 + (1:Int)))) z z z (wl_nil (tn ?_))))
 replace hst := hst.pull6.pull2.keep2
 obtain rfl := some_inj hm
 exact ⟨_, Nat.lt_succ_self _, t810, (i64.wrap (z752 + (1:Int))), v815, _, hx759, (fu 0 v815 z (fu 3 (Pt b548 0) z (fu 5 (.int .i64 (i64.wrap (z752 + (1:Int)))) z z))), hst⟩
}
 {
 replace hm := bif_f hc761 hm
 refine wp_iff (cvb hc761) ?_
 refine wp_exit (then_x (then_x ?_))
 replace hm := inr_up hm hx759
 refine blk_x (tn ?_)
 replace hst := hst.pull1.pull1.keep2
 obtain rfl := some_inj hm
 exact ⟨z749, v750, _, hx823, (fu 0 v750 z (fu 3 (Pt b548 0) z z)), hst⟩
}
}
 {
 clear hst
 rintro _ w824 ⟨z819, v818, σ820, hm, rfl, hst⟩
 dsimp only [ref13_Message_j0] at hm
 refine wp_seq ?_
 refine wp_region_St hst 10 [0, 1, 2, 3, 4, 5, 6, 7, 8, 9] [0, 0, 2, 6, 15, 0, 32, 96, 255, 511] [9] z (by kernel_rfl) (by kernel_rfl) Try.mixed (by kernel_rfl) ?_
 refine wsr (v818) 0 z z z (by kernel_rfl) (fun w hst => z) (wsr (Pt b548 9) 1 z z z (by kernel_rfl) (fun w hst => x_field z underlying30 z sizeOf28 z) (wsr (Pt b548 9) 2 z z z (by kernel_rfl) (fun w hst => x_field z underlying28 z sizeOf25 z) (wsr (.int .u64 a1.S.Index) 3 z z z (by kernel_rfl) (fun w hst => x_load z isAgg25 (hst.bc1 z)) (wsr (Pt b548 9) 5 z z z (by kernel_rfl) (fun w hst => x_field z underlying30 z sizeOf28 z) (wsr (Pt b548 10) 6 z z z (by kernel_rfl) (fun w hst => x_field z underlying28 z sizeOf25 z) (wsr (.int .u64 a1.S.Term) 7 z z z (by kernel_rfl) (fun w hst => x_load z isAgg25 (hst.bc1 z)) ?_))))))
 refine ws_e1 4 (by kernel_rfl) ?_
 refine nxe [8, 9] (by kernel_rfl) z z ?_
 clear hst
 intro w hst
 obtain ⟨css825, hq826, hst⟩ := hst.own_open
 obtain ⟨t827, ht828, hm⟩ := bind_some hm
 refine wec call34 [v818, U6 a1.S.Index, I6 (8:Int)] z z ?_
 refine (ref02_Num_ref (hst.rdrow0 hq826) hst.to0 ht828).mono ?_
 rintro _ w829 ⟨v832, rfl, hst⟩
 refine ⟨_, z, ?_⟩
 replace hst := hst.of1.pull1.own_close hq826
 refine ws_next (pend' := [(7, U6 a1.S.Term), (6, Pt b548 10), (5, Pt b548 9)]) hst (by kernel_rfl) (pkr z z (fun w hst => x_load z isAgg25 (hst.bc2 z)) (pkr z z (fun w hst => x_field z underlying28 z sizeOf25 z) (pkr z z (fun w hst => x_field z underlying30 z sizeOf28 z) pk_nil))) ?_
 refine ws_e1 8 (by kernel_rfl) ?_
 refine nxe [9] (by kernel_rfl) z z ?_
 clear hst
 intro w hst
 replace hst := hst.pull1
 obtain ⟨css834, hq835, hst⟩ := hst.own_open
 obtain ⟨t836, ht837, hm⟩ := bind_some hm
 refine wec call34 [v832, U6 a1.S.Term, I6 (8:Int)] z z ?_
 refine (ref02_Num_ref (hst.rdrow0 hq835) hst.to0 ht837).mono ?_
 rintro _ w838 ⟨v841, rfl, hst⟩
 refine ⟨_, z, ?_⟩
 replace hst := hst.of1.pull1.own_close hq835
 refine ws_next (pend' := []) hst (by kernel_rfl) pk_nil ?_
 refine ws_e1 9 (by kernel_rfl) ?_
 refine nxe [] (by kernel_rfl) z z ?_
 clear hst
 intro w hst
 refine we_run (v := v841) (w' := w) z z ?_
 refine ws_next (pend' := []) hst (by kernel_rfl) pk_nil ?_
 refine ws_nil ?_
 intro w hst
 refine tn (wp_seq ?_)
 refine wp_region_St hst 10 [0, 1, 2, 3, 4, 5, 6, 7, 8, 9] [0, 0, 2, 6, 15, 0, 32, 96, 255, 511] [] z (by kernel_rfl) (by kernel_rfl) Try.mixed (by kernel_rfl) ?_
 refine wsr (v841) 0 z z z (by kernel_rfl) (fun w hst => z) (wsr (Pt b548 9) 1 z z z (by kernel_rfl) (fun w hst => x_field z underlying30 z sizeOf28 z) (wsr (Pt b548 11) 2 z z z (by kernel_rfl) (fun w hst => x_field z underlying28 z sizeOf25 z) (wsr (.int .u64 a1.S.Voters) 3 z z z (by kernel_rfl) (fun w hst => x_load z isAgg25 (hst.bc3 z)) (wsr (Pt b548 9) 5 z z z (by kernel_rfl) (fun w hst => x_field z underlying30 z sizeOf28 z) (wsr (Pt b548 12) 6 z z z (by kernel_rfl) (fun w hst => x_field z underlying28 z sizeOf22 z) (wsr (r1_1) 7 z z z (by kernel_rfl) (fun w hst => x_load z isAgg22 (hst.bc3 z)) ?_))))))
 refine ws_e1 4 (by kernel_rfl) ?_
 refine nxe [8, 9] (by kernel_rfl) z z ?_
 clear hst
 intro w hst
 replace hst := hst.pull1
 obtain ⟨css843, hq844, hst⟩ := hst.own_open
 obtain ⟨t845, ht846, hm⟩ := bind_some hm
 refine wec call34 [v841, U6 a1.S.Voters, I6 (8:Int)] z z ?_
 refine (ref02_Num_ref (hst.rdrow0 hq844) hst.to0 ht846).mono ?_
 rintro _ w847 ⟨v850, rfl, hst⟩
 refine ⟨_, z, ?_⟩
 replace hst := hst.of1.pull1.own_close hq844
 refine ws_next (pend' := [(7, r1_1), (6, Pt b548 12), (5, Pt b548 9)]) hst (by kernel_rfl) (pkr z z (fun w hst => x_load z isAgg22 (hst.bc4 z)) (pkr z z (fun w hst => x_field z underlying28 z sizeOf22 z) (pkr z z (fun w hst => x_field z underlying30 z sizeOf28 z) pk_nil))) ?_
 refine ws_e1 8 (by kernel_rfl) ?_
 refine nxe [9] (by kernel_rfl) z z ?_
 clear hst
 intro w hst
 replace hst := hst.pull1
 obtain ⟨css852, hq853, hst⟩ := hst.own_open
 obtain ⟨t854, ht855, hm⟩ := bind_some hm
 refine wec call38 [v850, r1_1] z z ?_
 refine (ref02_Bytes_ref (hst.rdrow0 hq853) (f1_1.mono (rd_weak _)) hst.to0 ht855).mono ?_
 rintro _ w856 ⟨v859, rfl, hst⟩
 refine ⟨_, z, ?_⟩
 replace hst := hst.of1.pull1.own_close hq853
 refine ws_next (pend' := []) hst (by kernel_rfl) pk_nil ?_
 refine wsr (v859) 9 z z z (by kernel_rfl) (fun w hst => z) ?_
 refine ws_nil ?_
 intro w hst
 refine tn (wp_ret ?_)
 obtain rfl := some_inj hm
 refine post_ret (vs := [v859]) results35 (rvs_cons (rv_tmp z) rvs_nil) ?_
 replace hst := hst.pull1
 exact ⟨v859, z, hst.keep1⟩
}
}

theorem ref12_ID_ref {w0 w : World} {I : HL} {R : SP} {a0 : (List Int)} {r0_0 : Value} {a1 : api_ID} (f0_0 : Rd (tyInt .u8) R I r0_0 a0) (hst : St w0 w I [] R) {r : ((List Int))} (hm : ref12_ID a0 a1 = some r) :
  Calls prog 40 #[r0_0, .agg #[U6 a1.Session, U6 a1.Seq]] w fun e w' => ∃ (q0_0 : Value), e = .returned (q0_0) ∧ St w0 w' I [ownS (tyInt .u8) q0_0 r] R := by {
 unfold ref12_ID at hm
 refine calls_start (args := [r0_0, .agg #[U6 a1.Session, U6 a1.Seq]]) func40 z ntmps40 (Nat.le_of_ble_eq_true z) ?_
 refine wp_seq (wrl ?_)
 obtain ⟨b281, w282, ew283, eb284, hst⟩ := hst.box [U6 a1.Session, U6 a1.Seq] 32
 refine wl_run (v := Pt b281 0) (w' := w282) z z (x_al (by kernel_rfl) ew283 eb284) ?_
 refine wv ((.slice none 0 0)) z z z (wl_nil (tn (wp_seq ?_)))
 refine wp_region_St hst 8 [0, 1, 2, 3, 4, 5, 6, 7] [0, 0, 2, 7, 0, 16, 63, 127] [] z (by kernel_rfl) (by kernel_rfl) Try.mixed (by kernel_rfl) ?_
 refine wsr (r0_0) 0 z z z (by kernel_rfl) (fun w hst => z) (wsr (Pt b281 0) 1 z z z (by kernel_rfl) (fun w hst => x_field z underlying32 z sizeOf25 z) (wsr (.int .u64 a1.Session) 2 z z z (by kernel_rfl) (fun w hst => x_load z isAgg25 (hst.bc0 z)) (wsr (Pt b281 1) 4 z z z (by kernel_rfl) (fun w hst => x_field z underlying32 z sizeOf25 z) (wsr (.int .u64 a1.Seq) 5 z z z (by kernel_rfl) (fun w hst => x_load z isAgg25 (hst.bc0 z)) ?_))))
 refine ws_e1 3 (by kernel_rfl) ?_
 refine nxe [6, 7] (by kernel_rfl) z z ?_
 clear hst
 intro w hst
 obtain ⟨t287, ht288, hm⟩ := bind_some hm
 refine wec call34 [r0_0, U6 a1.Session, I6 (8:Int)] z z ?_
 refine (ref02_Num_ref (f0_0.mono (rd_weak _)) hst.to0 ht288).mono ?_
 rintro _ w289 ⟨v292, rfl, hst⟩
 refine ⟨_, z, ?_⟩
 replace hst := hst.of1
 refine ws_next (pend' := [(5, U6 a1.Seq), (4, Pt b281 1)]) hst (by kernel_rfl) (pkr z z (fun w hst => x_load z isAgg25 (hst.bc1 z)) (pkr z z (fun w hst => x_field z underlying32 z sizeOf25 z) pk_nil)) ?_
 refine ws_e1 6 (by kernel_rfl) ?_
 refine nxe [7] (by kernel_rfl) z z ?_
 clear hst
 intro w hst
 obtain ⟨css294, hq295, hst⟩ := hst.own_open
 obtain ⟨t296, ht297, hm⟩ := bind_some hm
 refine wec call34 [v292, U6 a1.Seq, I6 (8:Int)] z z ?_
 refine (ref02_Num_ref (hst.rdrow0 hq295) hst.to0 ht297).mono ?_
 rintro _ w298 ⟨v301, rfl, hst⟩
 refine ⟨_, z, ?_⟩
 replace hst := hst.of1.pull1.own_close hq295
 refine ws_next (pend' := []) hst (by kernel_rfl) pk_nil ?_
 refine wsr (v301) 7 z z z (by kernel_rfl) (fun w hst => z) ?_
 refine ws_nil ?_
 intro w hst
 refine tn (wp_ret ?_)
 obtain rfl := some_inj hm
 refine post_ret (vs := [v301]) results40 (rvs_cons (rv_tmp z) rvs_nil) ?_
 replace hst := hst.pull1
 exact ⟨v301, z, hst.keep1⟩
}

theorem ref01_Rank_ref {w0 w : World} {I : HL} {R : SP} {a0 : Nat}  (hst : St w0 w I [] R) {r : (Int)} (hm : ref01_Rank a0 = some r) :
  Calls prog 61 #[F6 a0] w fun e w' => e = .returned (.int .u64 r) ∧ St w0 w' I [] R := by {
 unfold ref01_Rank at hm
 refine calls_start (args := [F6 a0]) func61 z ntmps61 (Nat.le_of_ble_eq_true z) ?_
 refine wp_seq (wrl (wv (.int .u64 (0:Int)) z z z (wl_nil (tn (wp_seq (wrl (wv (.float .f64 a0) z z z (wv (.int .u64 (Int.ofNat a0)) z z (by kernel_rfl) (wv (.int .u64 (Int.ofNat a0)) z z z (wl_nil (tn (wp_seq (wp_seq (wrl (wv (.float .f64 a0) z z z (wv (.float .f64 a0) z z z (wv (.bool (fNe a0 a0)) z z z (wl_nil (tn ?_)))))))))))))))))))
 refine bsplit (fNe a0 a0) (fun hc290 => ?_) (fun hc290 => ?_)
 {
 replace hm := bif_t hc290 hm
 refine wp_ift (cvb hc290) ?_
 refine wp_seq (wrl (wv (.int .u64 (18446744073709551615:Int)) z z z (wl_nil (tn (wp_ret (then_r ?_))))))
 obtain rfl := some_inj hm
 refine post_ret (vs := [U6 (18446744073709551615:Int)]) results61 (rvs_cons (rv_tmp z) rvs_nil) ?_
 exact ⟨z, hst.keep0⟩
}
 {
 replace hm := bif_f hc290 hm
 refine wp_iff (cvb hc290) ?_
 refine wp_skip (tn (wp_seq (wp_seq (wrl ?_))))
 refine wv (.int .u64 (Int.ofNat a0)) z z z (wv (.bool (decide ((Int.ofNat a0) ≥ (9223372036854775808:Int)))) z z z (wl_nil (tn ?_)))
 refine bsplit (decide ((Int.ofNat a0) ≥ (9223372036854775808:Int))) (fun hc291 => ?_) (fun hc291 => ?_)
 {
 replace hm := bif_t hc291 hm
 refine wp_ift (cvb hc291) ?_
 refine wp_seq (wrl (wv (.int .u64 (Int.ofNat a0)) z z z (wv (.int .u64 (u64.wrap ((18446744073709551615:Int) - (Int.ofNat a0)))) z z z (wv (.int .u64 (u64.wrap ((18446744073709551615:Int) - (Int.ofNat a0)))) z z z (wl_nil (tn (wp_ret (then_r ?_))))))))
 obtain rfl := some_inj hm
 refine post_ret (vs := [U6 (u64.wrap ((18446744073709551615:Int) - (Int.ofNat a0)))]) results61 (rvs_cons (rv_tmp z) rvs_nil) ?_
 exact ⟨z, hst.keep0⟩
}
 {
 replace hm := bif_f hc291 hm
 refine wp_iff (cvb hc291) ?_
 refine wp_skip (tn (wp_seq (wrl ?_)))
 refine wv (.int .u64 (Int.ofNat a0)) z z z (wv (.int .u64 (u64.wrap ((Int.ofNat a0) + (9223372036854775808:Int)))) z z z (wv (.int .u64 (u64.wrap ((Int.ofNat a0) + (9223372036854775808:Int)))) z z z (wl_nil (tn (wp_ret ?_)))))
 obtain rfl := some_inj hm
 refine post_ret (vs := [U6 (u64.wrap ((Int.ofNat a0) + (9223372036854775808:Int)))]) results61 (rvs_cons (rv_tmp z) rvs_nil) ?_
 exact ⟨z, hst.keep0⟩
}
}
}

theorem ref12_Hold_ref {w0 w : World} {I : HL} {R : SP} {a0 : (List Int)} {r0_0 : Value} {a1 : api_Hold} {r1_0 : Value} {r1_1 : Value} {r1_2 : Value} {r1_3 : Value} (f0_0 : Rd (tyInt .u8) R I r0_0 a0) (f1_0 : Rd tyF64 R I r1_0 a1.Gets) (f1_1 : Rd tyF2 R I r1_1 a1.Scans) (f1_2 : Rd tyF64 R I r1_2 a1.Puts) (f1_3 : Rd (tyInt .u8) R I r1_3 a1.Data) (hst : St w0 w I [] R) {r : ((List Int))} (hm : ref12_Hold a0 a1 = some r) :
  Calls prog 36 #[r0_0, .agg #[U6 a1.ID.Session, U6 a1.ID.Seq, U6 a1.Epoch, r1_0, r1_1, r1_2, r1_3]] w fun e w' => ∃ (q0_0 : Value), e = .returned (q0_0) ∧ St w0 w' I [ownS (tyInt .u8) q0_0 r] R := by {
 unfold ref12_Hold at hm
 refine calls_start (args := [r0_0, .agg #[U6 a1.ID.Session, U6 a1.ID.Seq, U6 a1.Epoch, r1_0, r1_1, r1_2, r1_3]]) func36 z ntmps36 (Nat.le_of_ble_eq_true z) ?_
 refine wp_seq (wrl ?_)
 obtain ⟨b608, w609, ew610, eb611, hst⟩ := hst.box [U6 a1.ID.Session, U6 a1.ID.Seq, U6 a1.Epoch, r1_0, r1_1, r1_2, r1_3] 36
 refine wl_run (v := Pt b608 0) (w' := w609) z z (x_al (by kernel_rfl) ew610 eb611) ?_
 refine wv ((.slice none 0 0)) z z z (wl_nil (tn (wp_seq (wrl (wv (r0_0) z z z (wv (Pt b608 0) z z (x_field z underlying36 z sizeOf32 z) (wv (.agg #[U6 a1.ID.Session, U6 a1.ID.Seq]) z z (x_loadN (cs := [U6 a1.ID.Session, U6 a1.ID.Seq]) z isAgg32 sizeOf32 (hst.bcs0 0 z)) ?_)))))))
 obtain ⟨t614, ht615, hm⟩ := bind_some hm
 refine wc call40 [r0_0, .agg #[U6 a1.ID.Session, U6 a1.ID.Seq]] z z z ?_
 refine (ref12_ID_ref (f0_0.mono (rd_weak _)) hst.to0 ht615).mono ?_
 rintro _ w616 ⟨v619, rfl, hst⟩
 refine ⟨_, z, ?_⟩
 replace hst := hst.of1
 refine wv (v619) z z z (wl_nil (tn (wp_seq (wrl (wv (v619) z z z (wv (Pt b608 2) z z (x_field z underlying36 z sizeOf25 z) (wv (.int .u64 a1.Epoch) z z (x_load z isAgg25 (hst.bc1 z)) ?_)))))))
 obtain ⟨css621, hq622, hst⟩ := hst.own_open
 obtain ⟨t623, ht624, hm⟩ := bind_some hm
 refine wc call34 [v619, U6 a1.Epoch, I6 (8:Int)] z z z ?_
 refine (ref02_Num_ref (hst.rdrow0 hq622) hst.to0 ht624).mono ?_
 rintro _ w625 ⟨v628, rfl, hst⟩
 refine ⟨_, z, ?_⟩
 replace hst := hst.of1.pull1.own_close hq622
 refine wv (v628) z z z (wl_nil (tn (wp_seq (wrl (wv (v628) z z z (wv (Pt b608 3) z z (x_field z underlying36 z sizeOf33 z) (wv (r1_0) z z (x_load z isAgg33 (hst.bc2 z)) (wv (.int .i64 ((a1.Gets).length : Int)) z z (x_len z underlying33 (rd_sliceV f1_0)) (wv (.int .u64 (u64.wrap ((a1.Gets).length : Int))) z z (by kernel_rfl) ?_)))))))))
 replace hst := hst.pull1
 obtain ⟨css630, hq631, hst⟩ := hst.own_open
 obtain ⟨t632, ht633, hm⟩ := bind_some hm
 refine wc call34 [v628, U6 (u64.wrap ((a1.Gets).length : Int)), I6 (4:Int)] z z z ?_
 refine (ref02_Num_ref (hst.rdrow0 hq631) hst.to0 ht633).mono ?_
 rintro _ w634 ⟨v637, rfl, hst⟩
 refine ⟨_, z, ?_⟩
 replace hst := hst.of1.pull1.own_close hq631
 refine wv (v637) z z z (wl_nil (tn ?_))
 obtain ⟨y720, hm, hx721⟩ := bind_some hm
 refine wp_cut (fun a w => ∃ (z717 : (List Int)) (v716 : Value) (σ718 : Nat → Value), (ref12_Hold_j0 a1) z717 = some r ∧ a = Fr 92 (upd (upd σ718 0 (v716)) 3 (Pt b608 0)) ∧ St w0 w I [ownS (tyInt .u8) v716 z717, cells b608 [U6 a1.ID.Session, U6 a1.ID.Seq, U6 a1.Epoch, r1_0, r1_1, r1_2, r1_3]] R) ?_ ?_
 {
 refine wp_seq (wrl (wv (.int .i64 (0:Int)) z z z (wl_nil (tn (wp_block ?_)))))
 replace hst := hst.sub.pull1.sub
 obtain ⟨n688, hm⟩ := loopO_some hm
 refine wp_loop_n (fun n a w => ∃ (z683 : (List Int)) (z686 : Int) (v684 : Value) (σ687 : Nat → Value), loopN (ref12_Hold_l1 a1) n (z683, z686) = some y720 ∧ a = Fr 92 (upd (upd (upd σ687 0 (v684)) 3 (Pt b608 0)) 5 (.int .i64 z686)) ∧ St w0 w I [ownS (tyInt .u8) v684 z683, cells b608 [U6 a1.ID.Session, U6 a1.ID.Seq, U6 a1.Epoch, r1_0, r1_1, r1_2, r1_3]] R) n688 ⟨t632, (0:Int), v637, _, hm, (fu 0 v637 z (fu 3 (Pt b608 0) z (fu 5 (.int .i64 (0:Int)) z z))), hst⟩ ?_
 rintro n694 _ w689 ⟨z683, z686, v684, σ687, hm, rfl, hst⟩
 obtain ⟨n691, y692, rfl, hm, hx693⟩ := loopN_some hm
 dsimp only [ref12_Hold_l1] at hm
 refine wp_seq (wp_seq (wrl (wv (.int .i64 z686) z z z (wv (Pt b608 3) z z (x_field z underlying36 z sizeOf33 z) (wv (r1_0) z z (x_load z isAgg33 (hst.bc1 z)) (wv (.int .i64 ((a1.Gets).length : Int)) z z (x_len z underlying33 (rd_sliceV f1_0)) (wv (.bool (decide (z686 < ((a1.Gets).length : Int)))) z z z (wl_nil (tn ?_)))))))))
 refine bsplit (decide (z686 < ((a1.Gets).length : Int))) (fun hc695 => ?_) (fun hc695 => ?_)
 {
 replace hm := bif_t hc695 hm
 refine wp_ift (cvb hc695) ?_
 refine wp_skip (tn (wp_seq (wp_block (wrl ?_))))
 refine wv (v684) z z z (wv (Pt b608 3) z z (x_field z underlying36 z sizeOf33 z) (wv (r1_0) z z (x_load z isAgg33 (hst.bc1 z)) (wv (.int .i64 z686) z z z ?_)))
 obtain ⟨x696, hx697, hm⟩ := bind_some hm
 obtain ⟨h698, h699, hi700⟩ := geto_some hx697
 refine wv (.pointer (some (eAddr r1_0 (z686.toNat * 1 + 0)))) z z (x_index z z underlying33 sizeOf44 (rd_sliceV f1_0) h698 h699) (wv (.float .f64 x696) z z (x_load z isAgg44 (rd_load f1_0 (HL.le.refl _) hst hi700 (by rintro _ rfl; rfl))) ?_)
 obtain ⟨t701, ht702, hm⟩ := bind_some hm
 refine wc call61 [F6 x696] z z z ?_
 refine (ref01_Rank_ref hst.to0 ht702).mono ?_
 rintro _ w703 ⟨rfl, hst⟩
 refine ⟨_, z, ?_⟩
 replace hst := hst.of0
 obtain ⟨css706, hq707, hst⟩ := hst.own_open
 obtain ⟨t708, ht709, hm⟩ := bind_some hm
 refine wc call34 [v684, U6 t701, I6 (8:Int)] z z z ?_
 refine (ref02_Num_ref (hst.rdrow0 hq707) hst.to0 ht709).mono ?_
 rintro _ w710 ⟨v713, rfl, hst⟩
 refine ⟨_, z, ?_⟩
 replace hst := hst.of1.pull1.own_close hq707
 refine wv (v713) z z z (wl_nil (blk_n (tn (wrl (wv (.int .i64 z686) z z z (wv (.int .i64 (i64.wrap (z686 + (1:Int)))) z z z (wv (.int .i64 (i64.wrap (z686 + (1:Int)))) z z z (wl_nil (tn ?_)))))))))
 replace hst := hst.pull2.pull2.keep2
 obtain rfl := some_inj hm
 exact ⟨_, Nat.lt_succ_self _, t708, (i64.wrap (z686 + (1:Int))), v713, _, hx693, (fu 0 v713 z (fu 3 (Pt b608 0) z (fu 5 (.int .i64 (i64.wrap (z686 + (1:Int)))) z z))), hst⟩
}
 {
 replace hm := bif_f hc695 hm
 refine wp_iff (cvb hc695) ?_
 refine wp_exit (then_x (then_x ?_))
 replace hm := inr_up hm hx693
 refine blk_x (tn ?_)
 replace hst := hst.pull1.pull1.keep2
 obtain rfl := some_inj hm
 exact ⟨z683, v684, _, hx721, (fu 0 v684 z (fu 3 (Pt b608 0) z z)), hst⟩
}
}
 {
 clear hst
 rintro _ w722 ⟨z717, v716, σ718, hm, rfl, hst⟩
 dsimp only [ref12_Hold_j0] at hm
 refine wp_seq (wrl (wv (v716) z z z (wv (Pt b608 4) z z (x_field z underlying36 z sizeOf34 z) (wv (r1_1) z z (x_load z isAgg34 (hst.bc1 z)) (wv (.int .i64 ((a1.Scans).length : Int)) z z (x_len z underlying34 (rd_sliceV f1_1)) (wv (.int .u64 (u64.wrap ((a1.Scans).length : Int))) z z (by kernel_rfl) ?_))))))
 obtain ⟨css723, hq724, hst⟩ := hst.own_open
 obtain ⟨t725, ht726, hm⟩ := bind_some hm
 refine wc call34 [v716, U6 (u64.wrap ((a1.Scans).length : Int)), I6 (4:Int)] z z z ?_
 refine (ref02_Num_ref (hst.rdrow0 hq724) hst.to0 ht726).mono ?_
 rintro _ w727 ⟨v730, rfl, hst⟩
 refine ⟨_, z, ?_⟩
 replace hst := hst.of1.pull1.own_close hq724
 refine wv (v730) z z z (wl_nil (tn ?_))
 obtain ⟨y855, hm, hx856⟩ := bind_some hm
 refine wp_cut (fun a w => ∃ (z852 : (List Int)) (v851 : Value) (σ853 : Nat → Value), (ref12_Hold_j2 a1) z852 = some r ∧ a = Fr 92 (upd (upd σ853 0 (v851)) 3 (Pt b608 0)) ∧ St w0 w I [ownS (tyInt .u8) v851 z852, cells b608 [U6 a1.ID.Session, U6 a1.ID.Seq, U6 a1.Epoch, r1_0, r1_1, r1_2, r1_3]] R) ?_ ?_
 {
 refine wp_seq (wrl (wv (.int .i64 (0:Int)) z z z (wl_nil (tn (wp_block ?_)))))
 replace hst := hst.sub
 obtain ⟨n809, hm⟩ := loopO_some hm
 refine wp_loop_n (fun n a w => ∃ (z804 : (List Int)) (z807 : Int) (v805 : Value) (σ808 : Nat → Value), loopN (ref12_Hold_l3 a1) n (z804, z807) = some y855 ∧ a = Fr 92 (upd (upd (upd σ808 0 (v805)) 3 (Pt b608 0)) 6 (.int .i64 z807)) ∧ St w0 w I [ownS (tyInt .u8) v805 z804, cells b608 [U6 a1.ID.Session, U6 a1.ID.Seq, U6 a1.Epoch, r1_0, r1_1, r1_2, r1_3]] R) n809 ⟨t725, (0:Int), v730, _, hm, (fu 0 v730 z (fu 3 (Pt b608 0) z (fu 6 (.int .i64 (0:Int)) z z))), hst⟩ ?_
 rintro n815 _ w810 ⟨z804, z807, v805, σ808, hm, rfl, hst⟩
 obtain ⟨n812, y813, rfl, hm, hx814⟩ := loopN_some hm
 dsimp only [ref12_Hold_l3] at hm
 refine wp_seq (wp_seq (wrl (wv (.int .i64 z807) z z z (wv (Pt b608 4) z z (x_field z underlying36 z sizeOf34 z) (wv (r1_1) z z (x_load z isAgg34 (hst.bc1 z)) (wv (.int .i64 ((a1.Scans).length : Int)) z z (x_len z underlying34 (rd_sliceV f1_1)) (wv (.bool (decide (z807 < ((a1.Scans).length : Int)))) z z z (wl_nil (tn ?_)))))))))
 refine bsplit (decide (z807 < ((a1.Scans).length : Int))) (fun hc816 => ?_) (fun hc816 => ?_)
 {
 replace hm := bif_t hc816 hm
 refine wp_ift (cvb hc816) ?_
 refine wp_skip (tn (wp_seq (wp_block ?_)))
 refine wp_region_St hst 18 [0, 1, 2, 3, 4, 5, 6, 7, 8, 9, 10, 11, 12, 13, 14, 15, 16, 17] [0, 0, 2, 0, 14, 30, 62, 126, 255, 0, 512, 0, 3584, 7680, 15872, 32767, 65535, 131071] [17] z (by kernel_rfl) (by kernel_rfl) Try.mixed (by kernel_rfl) ?_
 refine wsr (v805) 0 z z z (by kernel_rfl) (fun w hst => z) (wsr (Pt b608 4) 1 z z z (by kernel_rfl) (fun w hst => x_field z underlying36 z sizeOf34 z) (wsr (r1_1) 2 z z z (by kernel_rfl) (fun w hst => x_load z isAgg34 (hst.bc1 z)) (wsr (.int .i64 z807) 3 z z z (by kernel_rfl) (fun w hst => z) ?_)))
 obtain ⟨x817, hx818, hm⟩ := bind_some hm
 obtain ⟨h819, h820, hi821⟩ := geto_some hx818
 refine wsr (.pointer (some (eAddr r1_1 (z807.toNat * 2 + 0)))) 4 z z z (by kernel_rfl) (fun w hst => x_index z z underlying34 sizeOf102 (rd_sliceV f1_1) h819 h820) (wsr (.pointer (some (eAddr r1_1 (z807.toNat * 2 + 0)))) 5 z z z (by kernel_rfl) (fun w hst => x_index_arr_e (i := (0:Int)) z z underlying102 sizeOf44 (by decide) (by decide) z) (wsr (.float .f64 x817.1) 6 z z z (by kernel_rfl) (fun w hst => x_load z isAgg44 (rd_load f1_1 (HL.le.refl _) hst hi821 (by rintro _ rfl; rfl))) (wsr (Pt b608 4) 9 z z z (by kernel_rfl) (fun w hst => x_field z underlying36 z sizeOf34 z) (wsr (r1_1) 10 z z z (by kernel_rfl) (fun w hst => x_load z isAgg34 (hst.bc1 z)) (wsr (.int .i64 z807) 11 z z z (by kernel_rfl) (fun w hst => z) (wsr (.pointer (some (eAddr r1_1 (z807.toNat * 2 + 0)))) 12 z z z (by kernel_rfl) (fun w hst => x_index z z underlying34 sizeOf102 (rd_sliceV f1_1) h819 h820) (wsr (.pointer (some (eAddr r1_1 (z807.toNat * 2 + 1)))) 13 z z z (by kernel_rfl) (fun w hst => x_index_arr_e (i := (1:Int)) z z underlying102 sizeOf44 (by decide) (by decide) z) (wsr (.float .f64 x817.2) 14 z z z (by kernel_rfl) (fun w hst => x_load z isAgg44 (rd_load f1_1 (HL.le.refl _) hst hi821 (by rintro _ rfl; rfl))) ?_))))))))
 refine ws_e1 7 (by kernel_rfl) ?_
 refine nxe [8, 15, 16, 17] (by kernel_rfl) z z ?_
 clear hst
 intro w hst
 obtain ⟨t822, ht823, hm⟩ := bind_some hm
 refine wec call61 [F6 x817.1] z z ?_
 refine (ref01_Rank_ref hst.to0 ht823).mono ?_
 rintro _ w824 ⟨rfl, hst⟩
 refine ⟨_, z, ?_⟩
 replace hst := hst.of0
 refine ws_next (pend' := [(14, F6 x817.2), (13, .pointer (some (eAddr r1_1 (z807.toNat * 2 + 1)))), (12, .pointer (some (eAddr r1_1 (z807.toNat * 2 + 0)))), (11, I6 z807), (10, r1_1), (9, Pt b608 4), (0, v805)]) hst (by kernel_rfl) (pkr z z (fun w hst => x_load z isAgg44 (rd_load f1_1 (HL.le.refl _) hst hi821 (by rintro _ rfl; rfl))) (pkr z z (fun w hst => x_index_arr_e (i := (1:Int)) z z underlying102 sizeOf44 (by decide) (by decide) z) (pkr z z (fun w hst => x_index z z underlying34 sizeOf102 (rd_sliceV f1_1) h819 h820) (pkr z z (fun w hst => z) (pkr z z (fun w hst => x_load z isAgg34 (hst.bc1 z)) (pkr z z (fun w hst => x_field z underlying36 z sizeOf34 z) (pkr z z (fun w hst => z) pk_nil))))))) ?_
 refine ws_e1 8 (by kernel_rfl) ?_
 refine nxe [15, 16, 17] (by kernel_rfl) z z ?_
 clear hst
 intro w hst
 obtain ⟨css827, hq828, hst⟩ := hst.own_open
 obtain ⟨t829, ht830, hm⟩ := bind_some hm
 refine wec call34 [v805, U6 t822, I6 (8:Int)] z z ?_
 refine (ref02_Num_ref (hst.rdrow0 hq828) hst.to0 ht830).mono ?_
 rintro _ w831 ⟨v834, rfl, hst⟩
 refine ⟨_, z, ?_⟩
 replace hst := hst.of1.pull1.own_close hq828
 refine ws_next (pend' := [(14, F6 x817.2), (13, .pointer (some (eAddr r1_1 (z807.toNat * 2 + 1)))), (12, .pointer (some (eAddr r1_1 (z807.toNat * 2 + 0)))), (11, I6 z807), (10, r1_1), (9, Pt b608 4)]) hst (by kernel_rfl) (pkr z z (fun w hst => x_load z isAgg44 (rd_load f1_1 (HL.le.refl _) hst hi821 (by rintro _ rfl; rfl))) (pkr z z (fun w hst => x_index_arr_e (i := (1:Int)) z z underlying102 sizeOf44 (by decide) (by decide) z) (pkr z z (fun w hst => x_index z z underlying34 sizeOf102 (rd_sliceV f1_1) h819 h820) (pkr z z (fun w hst => z) (pkr z z (fun w hst => x_load z isAgg34 (hst.bc2 z)) (pkr z z (fun w hst => x_field z underlying36 z sizeOf34 z) pk_nil)))))) ?_
 refine ws_e1 15 (by kernel_rfl) ?_
 refine nxe [16, 17] (by kernel_rfl) z z ?_
 clear hst
 intro w hst
 obtain ⟨t836, ht837, hm⟩ := bind_some hm
 refine wec call61 [F6 x817.2] z z ?_
 refine (ref01_Rank_ref hst.to0 ht837).mono ?_
 rintro _ w838 ⟨rfl, hst⟩
 refine ⟨_, z, ?_⟩
 replace hst := hst.of0
 refine ws_next (pend' := []) hst (by kernel_rfl) pk_nil ?_
 refine ws_e1 16 (by kernel_rfl) ?_
 refine nxe [17] (by kernel_rfl) z z ?_
 clear hst
 intro w hst
 replace hst := hst.pull1
 obtain ⟨css841, hq842, hst⟩ := hst.own_open
 obtain ⟨t843, ht844, hm⟩ := bind_some hm
 refine wec call34 [v834, U6 t836, I6 (8:Int)] z z ?_
 refine (ref02_Num_ref (hst.rdrow0 hq842) hst.to0 ht844).mono ?_
 rintro _ w845 ⟨v848, rfl, hst⟩
 refine ⟨_, z, ?_⟩
 replace hst := hst.of1.pull1.own_close hq842
 refine ws_next (pend' := []) hst (by kernel_rfl) pk_nil ?_
 refine ws_e1 17 (by kernel_rfl) ?_
 refine nxe [] (by kernel_rfl) z z ?_
 clear hst
 intro w hst
 refine we_run (v := v848) (w' := w) z z ?_
 refine ws_next (pend' := []) hst (by kernel_rfl) pk_nil ?_
 refine ws_nil ?_
 intro w hst
 refine blk_n (tn (wrl ?_))
 refine wv (.int .i64 z807) z z z (wv (.int .i64 (i64.wrap (z807 + (1:Int)))) z z z (wv (.int .i64 (i64.wrap (z807 + (1:Int)))) z z z (wl_nil (tn ?_))))
 replace hst := hst.pull3.pull2.keep2
 obtain rfl := some_inj hm
 exact ⟨_, Nat.lt_succ_self _, t843, (i64.wrap (z807 + (1:Int))), v848, _, hx814, (fu 0 v848 z (fu 3 (Pt b608 0) z (fu 6 (.int .i64 (i64.wrap (z807 + (1:Int)))) z z))), hst⟩
}
 {
 replace hm := bif_f hc816 hm
 refine wp_iff (cvb hc816) ?_
 refine wp_exit (then_x (then_x ?_))
 replace hm := inr_up hm hx814
 refine blk_x (tn ?_)
 replace hst := hst.pull1.pull1.keep2
 obtain rfl := some_inj hm
 exact ⟨z804, v805, _, hx856, (fu 0 v805 z (fu 3 (Pt b608 0) z z)), hst⟩
}
}
 {
 clear hst
 rintro _ w857 ⟨z852, v851, σ853, hm, rfl, hst⟩
 dsimp only [ref12_Hold_j2] at hm
 refine wp_seq (wrl (wv (v851) z z z (wv (Pt b608 5) z z (x_field z underlying36 z sizeOf33 z) (wv (r1_2) z z (x_load z isAgg33 (hst.bc1 z)) (wv (.int .i64 ((a1.Puts).length : Int)) z z (x_len z underlying33 (rd_sliceV f1_2)) (wv (.int .u64 (u64.wrap ((a1.Puts).length : Int))) z z (by kernel_rfl) ?_))))))
 obtain ⟨css858, hq859, hst⟩ := hst.own_open
 obtain ⟨t860, ht861, hm⟩ := bind_some hm
 refine wc call34 [v851, U6 (u64.wrap ((a1.Puts).length : Int)), I6 (4:Int)] z z z ?_
 refine (ref02_Num_ref (hst.rdrow0 hq859) hst.to0 ht861).mono ?_
 rintro _ w862 ⟨v865, rfl, hst⟩
 refine ⟨_, z, ?_⟩
 replace hst := hst.of1.pull1.own_close hq859
 refine wv (v865) z z z (wl_nil (tn ?_))
 obtain ⟨y948, hm, hx949⟩ := bind_some hm
 refine wp_cut (fun a w => ∃ (z945 : (List Int)) (v944 : Value) (σ946 : Nat → Value), (ref12_Hold_j4 a1) z945 = some r ∧ a = Fr 92 (upd (upd σ946 0 (v944)) 3 (Pt b608 0)) ∧ St w0 w I [ownS (tyInt .u8) v944 z945, cells b608 [U6 a1.ID.Session, U6 a1.ID.Seq, U6 a1.Epoch, r1_0, r1_1, r1_2, r1_3]] R) ?_ ?_
 {
 refine wp_seq (wrl (wv (.int .i64 (0:Int)) z z z (wl_nil (tn (wp_block ?_)))))
 replace hst := hst.sub
 obtain ⟨n916, hm⟩ := loopO_some hm
 refine wp_loop_n (fun n a w => ∃ (z911 : (List Int)) (z914 : Int) (v912 : Value) (σ915 : Nat → Value), loopN (ref12_Hold_l5 a1) n (z911, z914) = some y948 ∧ a = Fr 92 (upd (upd (upd σ915 0 (v912)) 3 (Pt b608 0)) 7 (.int .i64 z914)) ∧ St w0 w I [ownS (tyInt .u8) v912 z911, cells b608 [U6 a1.ID.Session, U6 a1.ID.Seq, U6 a1.Epoch, r1_0, r1_1, r1_2, r1_3]] R) n916 ⟨t860, (0:Int), v865, _, hm, (fu 0 v865 z (fu 3 (Pt b608 0) z (fu 7 (.int .i64 (0:Int)) z z))), hst⟩ ?_
 rintro n922 _ w917 ⟨z911, z914, v912, σ915, hm, rfl, hst⟩
 obtain ⟨n919, y920, rfl, hm, hx921⟩ := loopN_some hm
 dsimp only [ref12_Hold_l5] at hm
 refine wp_seq (wp_seq (wrl (wv (.int .i64 z914) z z z (wv (Pt b608 5) z z (x_field z underlying36 z sizeOf33 z) (wv (r1_2) z z (x_load z isAgg33 (hst.bc1 z)) (wv (.int .i64 ((a1.Puts).length : Int)) z z (x_len z underlying33 (rd_sliceV f1_2)) (wv (.bool (decide (z914 < ((a1.Puts).length : Int)))) z z z (wl_nil (tn ?_)))))))))
 refine bsplit (decide (z914 < ((a1.Puts).length : Int))) (fun hc923 => ?_) (fun hc923 => ?_)
 {
 replace hm := bif_t hc923 hm
 refine wp_ift (cvb hc923) ?_
 refine wp_skip (tn (wp_seq (wp_block (wrl ?_))))
 refine wv (v912) z z z (wv (Pt b608 5) z z (x_field z underlying36 z sizeOf33 z) (wv (r1_2) z z (x_load z isAgg33 (hst.bc1 z)) (wv (.int .i64 z914) z z z ?_)))
 obtain ⟨x924, hx925, hm⟩ := bind_some hm
 obtain ⟨h926, h927, hi928⟩ := geto_some hx925
 refine wv (.pointer (some (eAddr r1_2 (z914.toNat * 1 + 0)))) z z (x_index z z underlying33 sizeOf44 (rd_sliceV f1_2) h926 h927) (wv (.float .f64 x924) z z (x_load z isAgg44 (rd_load f1_2 (HL.le.refl _) hst hi928 (by rintro _ rfl; rfl))) ?_)
 obtain ⟨t929, ht930, hm⟩ := bind_some hm
 refine wc call61 [F6 x924] z z z ?_
 refine (ref01_Rank_ref hst.to0 ht930).mono ?_
 rintro _ w931 ⟨rfl, hst⟩
 refine ⟨_, z, ?_⟩
 replace hst := hst.of0
 obtain ⟨css934, hq935, hst⟩ := hst.own_open
 obtain ⟨t936, ht937, hm⟩ := bind_some hm
 refine wc call34 [v912, U6 t929, I6 (8:Int)] z z z ?_
 refine (ref02_Num_ref (hst.rdrow0 hq935) hst.to0 ht937).mono ?_
 rintro _ w938 ⟨v941, rfl, hst⟩
 refine ⟨_, z, ?_⟩
 replace hst := hst.of1.pull1.own_close hq935
 refine wv (v941) z z z (wl_nil (blk_n (tn (wrl (wv (.int .i64 z914) z z z (wv (.int .i64 (i64.wrap (z914 + (1:Int)))) z z z (wv (.int .i64 (i64.wrap (z914 + (1:Int)))) z z z (wl_nil (tn ?_)))))))))
 replace hst := hst.pull2.pull2.keep2
 obtain rfl := some_inj hm
 exact ⟨_, Nat.lt_succ_self _, t936, (i64.wrap (z914 + (1:Int))), v941, _, hx921, (fu 0 v941 z (fu 3 (Pt b608 0) z (fu 7 (.int .i64 (i64.wrap (z914 + (1:Int)))) z z))), hst⟩
}
 {
 replace hm := bif_f hc923 hm
 refine wp_iff (cvb hc923) ?_
 refine wp_exit (then_x (then_x ?_))
 replace hm := inr_up hm hx921
 refine blk_x (tn ?_)
 replace hst := hst.pull1.pull1.keep2
 obtain rfl := some_inj hm
 exact ⟨z911, v912, _, hx949, (fu 0 v912 z (fu 3 (Pt b608 0) z z)), hst⟩
}
}
 {
 clear hst
 rintro _ w950 ⟨z945, v944, σ946, hm, rfl, hst⟩
 dsimp only [ref12_Hold_j4] at hm
 refine wp_seq (wrl (wv (v944) z z z (wv (Pt b608 6) z z (x_field z underlying36 z sizeOf22 z) (wv (r1_3) z z (x_load z isAgg22 (hst.bc1 z)) ?_))))
 obtain ⟨css951, hq952, hst⟩ := hst.own_open
 obtain ⟨t953, ht954, hm⟩ := bind_some hm
 refine wc call38 [v944, r1_3] z z z ?_
 refine (ref02_Bytes_ref (hst.rdrow0 hq952) (f1_3.mono (rd_weak _)) hst.to0 ht954).mono ?_
 rintro _ w955 ⟨v958, rfl, hst⟩
 refine ⟨_, z, ?_⟩
 replace hst := hst.of1.pull1.own_close hq952
 refine wv (v958) z z z (wl_nil (tn (wp_ret ?_)))
 obtain rfl := some_inj hm
 refine post_ret (vs := [v958]) results36 (rvs_cons (rv_tmp z) rvs_nil) ?_
 replace hst := hst.pull1
 exact ⟨v958, z, hst.keep1⟩
}
}
}
}

theorem ref13_Reply_ref {w0 w : World} {I : HL} {R : SP} {a0 : (List Int)} {r0_0 : Value} {a1 : api_Reply} {r1_0 : Value} {r1_1 : Value} (f0_0 : Rd (tyInt .u8) R I r0_0 a0) (f1_0 : Rd ty_api_Got R I r1_0 a1.Gots) (f1_1 : Rd (tySl ty_api_Pair) R I r1_1 a1.Scans) (hst : St w0 w I [] R) {r : ((List Int))} (hm : ref13_Reply a0 a1 = some r) :
  Calls prog 37 #[r0_0, .agg #[I6 a1.E, U6 a1.Epoch, U6 a1.Index, r1_0, r1_1]] w fun e w' => ∃ (q0_0 : Value), e = .returned (q0_0) ∧ St w0 w' I [ownS (tyInt .u8) q0_0 r] R := by {
 unfold ref13_Reply at hm
 refine calls_start (args := [r0_0, .agg #[I6 a1.E, U6 a1.Epoch, U6 a1.Index, r1_0, r1_1]]) func37 z ntmps37 (Nat.le_of_ble_eq_true z) ?_
 refine wp_seq (wrl ?_)
 obtain ⟨b921, w922, ew923, eb924, hst⟩ := hst.box [I6 a1.E, U6 a1.Epoch, U6 a1.Index, r1_0, r1_1] 41
 refine wl_run (v := Pt b921 0) (w' := w922) z z (x_al (by kernel_rfl) ew923 eb924) ?_
 refine wv ((.slice none 0 0)) z z z (wl_nil (tn (wp_seq (wrl (wv (r0_0) z z z (wv (Pt b921 0) z z (x_field z underlying41 z sizeOf37 z) (wv (.int .i64 a1.E) z z (x_load z isAgg37 (hst.bc0 z)) (wv (.int .u64 (u64.wrap a1.E)) z z (by kernel_rfl) ?_))))))))
 obtain ⟨t927, ht928, hm⟩ := bind_some hm
 refine wc call34 [r0_0, U6 (u64.wrap a1.E), I6 (1:Int)] z z z ?_
 refine (ref02_Num_ref (f0_0.mono (rd_weak _)) hst.to0 ht928).mono ?_
 rintro _ w929 ⟨v932, rfl, hst⟩
 refine ⟨_, z, ?_⟩
 replace hst := hst.of1
 refine wv (v932) z z z (wl_nil (tn (wp_seq ?_)))
 refine wp_region_St hst 8 [0, 1, 2, 3, 4, 5, 6, 7] [0, 0, 2, 7, 0, 16, 63, 127] [7] z (by kernel_rfl) (by kernel_rfl) Try.mixed (by kernel_rfl) ?_
 refine wsr (v932) 0 z z z (by kernel_rfl) (fun w hst => z) (wsr (Pt b921 1) 1 z z z (by kernel_rfl) (fun w hst => x_field z underlying41 z sizeOf25 z) (wsr (.int .u64 a1.Epoch) 2 z z z (by kernel_rfl) (fun w hst => x_load z isAgg25 (hst.bc1 z)) (wsr (Pt b921 2) 4 z z z (by kernel_rfl) (fun w hst => x_field z underlying41 z sizeOf25 z) (wsr (.int .u64 a1.Index) 5 z z z (by kernel_rfl) (fun w hst => x_load z isAgg25 (hst.bc1 z)) ?_))))
 refine ws_e1 3 (by kernel_rfl) ?_
 refine nxe [6, 7] (by kernel_rfl) z z ?_
 clear hst
 intro w hst
 obtain ⟨css934, hq935, hst⟩ := hst.own_open
 obtain ⟨t936, ht937, hm⟩ := bind_some hm
 refine wec call34 [v932, U6 a1.Epoch, I6 (8:Int)] z z ?_
 refine (ref02_Num_ref (hst.rdrow0 hq935) hst.to0 ht937).mono ?_
 rintro _ w938 ⟨v941, rfl, hst⟩
 refine ⟨_, z, ?_⟩
 replace hst := hst.of1.pull1.own_close hq935
 refine ws_next (pend' := [(5, U6 a1.Index), (4, Pt b921 2)]) hst (by kernel_rfl) (pkr z z (fun w hst => x_load z isAgg25 (hst.bc2 z)) (pkr z z (fun w hst => x_field z underlying41 z sizeOf25 z) pk_nil)) ?_
 refine ws_e1 6 (by kernel_rfl) ?_
 refine nxe [7] (by kernel_rfl) z z ?_
 clear hst
 intro w hst
 replace hst := hst.pull1
 obtain ⟨css943, hq944, hst⟩ := hst.own_open
 obtain ⟨t945, ht946, hm⟩ := bind_some hm
 refine wec call34 [v941, U6 a1.Index, I6 (8:Int)] z z ?_
 refine (ref02_Num_ref (hst.rdrow0 hq944) hst.to0 ht946).mono ?_
 rintro _ w947 ⟨v950, rfl, hst⟩
 refine ⟨_, z, ?_⟩
 replace hst := hst.of1.pull1.own_close hq944
 refine ws_next (pend' := []) hst (by kernel_rfl) pk_nil ?_
 refine ws_e1 7 (by kernel_rfl) ?_
 refine nxe [] (by kernel_rfl) z z ?_
 clear hst
 intro w hst
 refine we_run (v := v950) (w' := w) z z ?_
 refine ws_next (pend' := []) hst (by kernel_rfl) pk_nil ?_
 refine ws_nil ?_
 intro w hst
 refine tn (wp_seq (wrl (wv (v950) z z z (wv (Pt b921 3) z z (x_field z underlying41 z sizeOf38 z) (wv (r1_0) z z (x_load z isAgg38 (hst.bc3 z)) (wv (.int .i64 ((a1.Gots).length : Int)) z z (x_len z underlying38 (rd_sliceV f1_0)) (wv (.int .u64 (u64.wrap ((a1.Gots).length : Int))) z z (by kernel_rfl) ?_)))))))
 replace hst := hst.pull1
 obtain ⟨css952, hq953, hst⟩ := hst.own_open
 obtain ⟨t954, ht955, hm⟩ := bind_some hm
 refine wc call34 [v950, U6 (u64.wrap ((a1.Gots).length : Int)), I6 (4:Int)] z z z ?_
 refine (ref02_Num_ref (hst.rdrow0 hq953) hst.to0 ht955).mono ?_
 rintro _ w956 ⟨v959, rfl, hst⟩
 refine ⟨_, z, ?_⟩
 replace hst := hst.of1.pull1.own_close hq953
 refine wv (v959) z z z (wl_nil (tn ?_))
 obtain ⟨y1072, hm, hx1073⟩ := bind_some hm
 refine wp_cut (fun a w => ∃ (z1069 : (List Int)) (v1068 : Value) (σ1070 : Nat → Value), (ref13_Reply_j0 a1) z1069 = some r ∧ a = Fr 103 (upd (upd σ1070 0 (v1068)) 3 (Pt b921 0)) ∧ St w0 w I [ownS (tyInt .u8) v1068 z1069, cells b921 [I6 a1.E, U6 a1.Epoch, U6 a1.Index, r1_0, r1_1]] R) ?_ ?_
 {
 refine wp_seq (wrl (wv (.int .i64 (0:Int)) z z z (wl_nil (tn (wp_block ?_)))))
 replace hst := hst.sub.pull1.sub.pull1.sub
 obtain ⟨n1030, hm⟩ := loopO_some hm
 refine wp_loop_n (fun n a w => ∃ (z1025 : (List Int)) (z1028 : Int) (v1026 : Value) (σ1029 : Nat → Value), loopN (ref13_Reply_l1 a1) n (z1025, z1028) = some y1072 ∧ a = Fr 103 (upd (upd (upd σ1029 0 (v1026)) 3 (Pt b921 0)) 5 (.int .i64 z1028)) ∧ St w0 w I [ownS (tyInt .u8) v1026 z1025, cells b921 [I6 a1.E, U6 a1.Epoch, U6 a1.Index, r1_0, r1_1]] R) n1030 ⟨t954, (0:Int), v959, _, hm, (fu 0 v959 z (fu 3 (Pt b921 0) z (fu 5 (.int .i64 (0:Int)) z z))), hst⟩ ?_
 rintro n1036 _ w1031 ⟨z1025, z1028, v1026, σ1029, hm, rfl, hst⟩
 obtain ⟨n1033, y1034, rfl, hm, hx1035⟩ := loopN_some hm
 dsimp only [ref13_Reply_l1] at hm
 refine wp_seq (wp_seq (wrl (wv (.int .i64 z1028) z z z (wv (Pt b921 3) z z (x_field z underlying41 z sizeOf38 z) (wv (r1_0) z z (x_load z isAgg38 (hst.bc1 z)) (wv (.int .i64 ((a1.Gots).length : Int)) z z (x_len z underlying38 (rd_sliceV f1_0)) (wv (.bool (decide (z1028 < ((a1.Gots).length : Int)))) z z z (wl_nil (tn ?_)))))))))
 refine bsplit (decide (z1028 < ((a1.Gots).length : Int))) (fun hc1037 => ?_) (fun hc1037 => ?_)
 {
 replace hm := bif_t hc1037 hm
 refine wp_ift (cvb hc1037) ?_
 refine wp_skip (tn (wp_seq (wp_block ?_)))
 refine wp_region_St hst 16 [0, 1, 2, 3, 4, 5, 6, 7, 8, 9, 10, 11, 12, 13, 14, 15] [0, 0, 2, 0, 14, 30, 62, 127, 0, 256, 0, 1792, 3840, 7936, 16383, 32767] [15] z (by kernel_rfl) (by kernel_rfl) Try.mixed (by kernel_rfl) ?_
 refine wsr (v1026) 0 z z z (by kernel_rfl) (fun w hst => z) (wsr (Pt b921 3) 1 z z z (by kernel_rfl) (fun w hst => x_field z underlying41 z sizeOf38 z) (wsr (r1_0) 2 z z z (by kernel_rfl) (fun w hst => x_load z isAgg38 (hst.bc1 z)) (wsr (.int .i64 z1028) 3 z z z (by kernel_rfl) (fun w hst => z) ?_)))
 obtain ⟨x1038, hx1039, hm⟩ := bind_some hm
 obtain ⟨h1040, h1041, hi1042⟩ := geto_some hx1039
 refine wsr (.pointer (some (eAddr r1_0 (z1028.toNat * 2 + 0)))) 4 z z z (by kernel_rfl) (fun w hst => x_index z z underlying38 sizeOf104 (rd_sliceV f1_0) h1040 h1041) (wsr (.pointer (some (eAddr r1_0 (z1028.toNat * 2 + 0)))) 5 z z z (by kernel_rfl) (fun w hst => x_field_e z underlying104 z sizeOf4 z) ?_)
 obtain ⟨cs1043, hr1044, hc1045⟩ := Rd.getF f1_0 hi1042
 obtain ⟨v1046, rfl, f1047, -⟩ := hr1044
 refine wsr (.bool x1038.Has) 6 z z z (by kernel_rfl) (fun w hst => x_load z isAgg4 ((hc1045 (HL.le.refl _) hst) 0 _ z)) (wsr (Pt b921 3) 8 z z z (by kernel_rfl) (fun w hst => x_field z underlying41 z sizeOf38 z) (wsr (r1_0) 9 z z z (by kernel_rfl) (fun w hst => x_load z isAgg38 (hst.bc1 z)) (wsr (.int .i64 z1028) 10 z z z (by kernel_rfl) (fun w hst => z) (wsr (.pointer (some (eAddr r1_0 (z1028.toNat * 2 + 0)))) 11 z z z (by kernel_rfl) (fun w hst => x_index z z underlying38 sizeOf104 (rd_sliceV f1_0) h1040 h1041) (wsr (.pointer (some (eAddr r1_0 (z1028.toNat * 2 + 1)))) 12 z z z (by kernel_rfl) (fun w hst => x_field_e z underlying104 z sizeOf22 z) (wsr (v1046) 13 z z z (by kernel_rfl) (fun w hst => x_load z isAgg22 ((hc1045 (HL.le.refl _) hst) 1 _ z)) ?_))))))
 refine ws_e1 7 (by kernel_rfl) ?_
 refine nxe [14, 15] (by kernel_rfl) z z ?_
 clear hst
 intro w hst
 obtain ⟨css1049, hq1050, hst⟩ := hst.own_open
 obtain ⟨t1051, ht1052, hm⟩ := bind_some hm
 refine wec call60 [v1026, .bool x1038.Has] z z ?_
 refine (ref02_Flag_ref (hst.rdrow0 hq1050) hst.to0 ht1052).mono ?_
 rintro _ w1053 ⟨v1056, rfl, hst⟩
 refine ⟨_, z, ?_⟩
 replace hst := hst.of1.pull1.own_close hq1050
 refine ws_next (pend' := [(13, v1046), (12, .pointer (some (eAddr r1_0 (z1028.toNat * 2 + 1)))), (11, .pointer (some (eAddr r1_0 (z1028.toNat * 2 + 0)))), (10, I6 z1028), (9, r1_0), (8, Pt b921 3)]) hst (by kernel_rfl) (pkr z z (fun w hst => x_load z isAgg22 ((hc1045 (HL.le.refl _) hst) 1 _ z)) (pkr z z (fun w hst => x_field_e z underlying104 z sizeOf22 z) (pkr z z (fun w hst => x_index z z underlying38 sizeOf104 (rd_sliceV f1_0) h1040 h1041) (pkr z z (fun w hst => z) (pkr z z (fun w hst => x_load z isAgg38 (hst.bc2 z)) (pkr z z (fun w hst => x_field z underlying41 z sizeOf38 z) pk_nil)))))) ?_
 refine ws_e1 14 (by kernel_rfl) ?_
 refine nxe [15] (by kernel_rfl) z z ?_
 clear hst
 intro w hst
 replace hst := hst.pull1
 obtain ⟨css1058, hq1059, hst⟩ := hst.own_open
 obtain ⟨t1060, ht1061, hm⟩ := bind_some hm
 refine wec call38 [v1056, v1046] z z ?_
 refine (ref02_Bytes_ref (hst.rdrow0 hq1059) (f1047.mono (rd_weak _)) hst.to0 ht1061).mono ?_
 rintro _ w1062 ⟨v1065, rfl, hst⟩
 refine ⟨_, z, ?_⟩
 replace hst := hst.of1.pull1.own_close hq1059
 refine ws_next (pend' := []) hst (by kernel_rfl) pk_nil ?_
 refine ws_e1 15 (by kernel_rfl) ?_
 refine nxe [] (by kernel_rfl) z z ?_
 clear hst
 intro w hst
 refine we_run (v := v1065) (w' := w) z z ?_
 refine ws_next (pend' := []) hst (by kernel_rfl) pk_nil ?_
 refine ws_nil ?_
 intro w hst
 refine blk_n (tn (wrl ?_))
 refine wv (.int .i64 z1028) z z z (wv (.int .i64 (i64.wrap (z1028 + (1:Int)))) z z z (wv (.int .i64 (i64.wrap (z1028 + (1:Int)))) z z z (wl_nil (tn ?_))))
 replace hst := hst.pull3.pull2.keep2
 obtain rfl := some_inj hm
 exact ⟨_, Nat.lt_succ_self _, t1060, (i64.wrap (z1028 + (1:Int))), v1065, _, hx1035, (fu 0 v1065 z (fu 3 (Pt b921 0) z (fu 5 (.int .i64 (i64.wrap (z1028 + (1:Int)))) z z))), hst⟩
}
 {
 replace hm := bif_f hc1037 hm
 refine wp_iff (cvb hc1037) ?_
 refine wp_exit (then_x (then_x ?_))
 replace hm := inr_up hm hx1035
 refine blk_x (tn ?_)
 replace hst := hst.pull1.pull1.keep2
 obtain rfl := some_inj hm
 exact ⟨z1025, v1026, _, hx1073, (fu 0 v1026 z (fu 3 (Pt b921 0) z z)), hst⟩
}
}
 {
 clear hst
 rintro _ w1074 ⟨z1069, v1068, σ1070, hm, rfl, hst⟩
 dsimp only [ref13_Reply_j0] at hm
 refine wp_seq (wrl (wv (v1068) z z z (wv (Pt b921 4) z z (x_field z underlying41 z sizeOf39 z) (wv (r1_1) z z (x_load z isAgg39 (hst.bc1 z)) (wv (.int .i64 ((a1.Scans).length : Int)) z z (x_len z underlying39 (rd_sliceV f1_1)) (wv (.int .u64 (u64.wrap ((a1.Scans).length : Int))) z z (by kernel_rfl) ?_))))))
 obtain ⟨css1075, hq1076, hst⟩ := hst.own_open
 obtain ⟨t1077, ht1078, hm⟩ := bind_some hm
 refine wc call34 [v1068, U6 (u64.wrap ((a1.Scans).length : Int)), I6 (4:Int)] z z z ?_
 refine (ref02_Num_ref (hst.rdrow0 hq1076) hst.to0 ht1078).mono ?_
 rintro _ w1079 ⟨v1082, rfl, hst⟩
 refine ⟨_, z, ?_⟩
 replace hst := hst.of1.pull1.own_close hq1076
 refine wv (v1082) z z z (wl_nil (tn (wp_seq (wp_seq (wrl (wv (.int .i64 (0:Int)) z z z (wl_nil (tn (wp_block ?_)))))))))
 replace hst := hst.sub
 obtain ⟨n1413, hm⟩ := loopO_some hm
 refine wp_loop_n (fun n a w => ∃ (z1408 : (List Int)) (z1411 : Int) (v1409 : Value) (σ1412 : Nat → Value), loopN (ref13_Reply_l2 a1) n (z1408, z1411) = some r ∧ a = Fr 103 (upd (upd (upd σ1412 0 (v1409)) 3 (Pt b921 0)) 6 (.int .i64 z1411)) ∧ St w0 w I [ownS (tyInt .u8) v1409 z1408, cells b921 [I6 a1.E, U6 a1.Epoch, U6 a1.Index, r1_0, r1_1]] R) n1413 ⟨t1077, (0:Int), v1082, _, hm, (fu 0 v1082 z (fu 3 (Pt b921 0) z (fu 6 (.int .i64 (0:Int)) z z))), hst⟩ ?_
 rintro n1419 _ w1414 ⟨z1408, z1411, v1409, σ1412, hm, rfl, hst⟩
 obtain ⟨n1416, y1417, rfl, hm, hx1418⟩ := loopN_some hm
 dsimp only [ref13_Reply_l2] at hm
 refine wp_seq (wp_seq (wrl (wv (.int .i64 z1411) z z z (wv (Pt b921 4) z z (x_field z underlying41 z sizeOf39 z) (wv (r1_1) z z (x_load z isAgg39 (hst.bc1 z)) (wv (.int .i64 ((a1.Scans).length : Int)) z z (x_len z underlying39 (rd_sliceV f1_1)) (wv (.bool (decide (z1411 < ((a1.Scans).length : Int)))) z z z (wl_nil (tn ?_)))))))))
 refine bsplit (decide (z1411 < ((a1.Scans).length : Int))) (fun hc1420 => ?_) (fun hc1420 => ?_)
 {
 replace hm := bif_t hc1420 hm
 refine wp_ift (cvb hc1420) ?_
 refine wp_skip (tn (wp_seq (wp_block (wp_seq (wrl ?_)))))
 refine wv (v1409) z z z (wv (Pt b921 4) z z (x_field z underlying41 z sizeOf39 z) (wv (r1_1) z z (x_load z isAgg39 (hst.bc1 z)) (wv (.int .i64 z1411) z z z ?_)))
 obtain ⟨x1421, hx1422, hm⟩ := bind_some hm
 obtain ⟨h1423, h1424, hi1425⟩ := geto_some hx1422
 refine wv (.pointer (some (eAddr r1_1 (z1411.toNat * 1 + 0)))) z z (x_index z z underlying39 sizeOf105 (rd_sliceV f1_1) h1423 h1424) ?_
 obtain ⟨cs1426, hr1427, hc1428⟩ := Rd.getF f1_1 hi1425
 obtain ⟨v1429, rfl, f1430, -⟩ := hr1427
 refine wv (v1429) z z (x_load z isAgg105 ((hc1428 (HL.le.refl _) hst) 0 _ z)) (wv (.int .i64 ((x1421).length : Int)) z z (x_len z underlying105 (rd_sliceV f1430)) (wv (.int .u64 (u64.wrap ((x1421).length : Int))) z z (by kernel_rfl) ?_))
 obtain ⟨css1432, hq1433, hst⟩ := hst.own_open
 obtain ⟨t1434, ht1435, hm⟩ := bind_some hm
 refine wc call34 [v1409, U6 (u64.wrap ((x1421).length : Int)), I6 (4:Int)] z z z ?_
 refine (ref02_Num_ref (hst.rdrow0 hq1433) hst.to0 ht1435).mono ?_
 rintro _ w1436 ⟨v1439, rfl, hst⟩
 refine ⟨_, z, ?_⟩
 replace hst := hst.of1.pull1.own_close hq1433
 refine wv (v1439) z z z (wl_nil (tn (wp_seq (wrl (wv (.int .i64 (0:Int)) z z z (wl_nil (tn (wp_block ?_))))))))
 replace hst := hst.sub
 obtain ⟨n1532, hm⟩ := loopO_some hm
 refine wp_loop_n (fun n a w => ∃ (z1527 : (List Int)) (z1530 : Int) (v1528 : Value) (σ1531 : Nat → Value), loopN (ref13_Reply_l3 x1421 z1411) n (z1527, z1530) = some y1417 ∧ a = Fr 103 (upd (upd (upd (upd σ1531 0 (v1528)) 3 (Pt b921 0)) 6 (.int .i64 z1411)) 7 (.int .i64 z1530)) ∧ St w0 w I [ownS (tyInt .u8) v1528 z1527, cells b921 [I6 a1.E, U6 a1.Epoch, U6 a1.Index, r1_0, r1_1]] R) n1532 ⟨t1434, (0:Int), v1439, _, hm, (fu 0 v1439 z (fu 3 (Pt b921 0) z (fu 6 (.int .i64 z1411) z (fu 7 (.int .i64 (0:Int)) z z)))), hst⟩ ?_
 rintro n1538 _ w1533 ⟨z1527, z1530, v1528, σ1531, hm, rfl, hst⟩
 obtain ⟨n1535, y1536, rfl, hm, hx1537⟩ := loopN_some hm
 dsimp only [ref13_Reply_l3] at hm
 refine wp_seq (wp_seq (wrl (wv (.int .i64 z1530) z z z (wv (Pt b921 4) z z (x_field z underlying41 z sizeOf39 z) (wv (r1_1) z z (x_load z isAgg39 (hst.bc1 z)) (wv (.int .i64 z1411) z z z (wv (.pointer (some (eAddr r1_1 (z1411.toNat * 1 + 0)))) z z (x_index z z underlying39 sizeOf105 (rd_sliceV f1_1) h1423 h1424) ?_)))))))
 obtain ⟨cs1539, hr1540, hc1541⟩ := Rd.getF f1_1 hi1425
 obtain ⟨v1542, rfl, f1543, -⟩ := hr1540
 refine wv (v1542) z z (x_load z isAgg105 ((hc1541 (HL.le.refl _) hst) 0 _ z)) (wv (.int .i64 ((x1421).length : Int)) z z (x_len z underlying105 (rd_sliceV f1543)) (wv (.bool (decide (z1530 < ((x1421).length : Int)))) z z z (wl_nil (tn ?_))))
 refine bsplit (decide (z1530 < ((x1421).length : Int))) (fun hc1545 => ?_) (fun hc1545 => ?_)
 {
 replace hm := bif_t hc1545 hm
 refine wp_ift (cvb hc1545) ?_
 refine wp_skip (tn (wp_seq (wp_block ?_)))
 refine wp_region_St hst 23 [0, 1, 2, 3, 4, 5, 6, 7, 8, 9, 10, 11, 12, 13, 14, 15, 16, 17, 18, 19, 20, 21, 22] [0, 0, 2, 0, 14, 30, 0, 126, 254, 510, 1022, 2047, 0, 4096, 0, 28672, 61440, 0, 258048, 520192, 1044480, 2097151, 4194303] [22] z (by kernel_rfl) (by kernel_rfl) Try.mixed (by kernel_rfl) ?_
 refine wsr (v1528) 0 z z z (by kernel_rfl) (fun w hst => z) (wsr (Pt b921 4) 1 z z z (by kernel_rfl) (fun w hst => x_field z underlying41 z sizeOf39 z) (wsr (r1_1) 2 z z z (by kernel_rfl) (fun w hst => x_load z isAgg39 (hst.bc1 z)) (wsr (.int .i64 z1411) 3 z z z (by kernel_rfl) (fun w hst => z) (wsr (.pointer (some (eAddr r1_1 (z1411.toNat * 1 + 0)))) 4 z z z (by kernel_rfl) (fun w hst => x_index z z underlying39 sizeOf105 (rd_sliceV f1_1) h1423 h1424) (wsr (v1542) 5 z z z (by kernel_rfl) (fun w hst => x_load z isAgg105 ((hc1541 (HL.le.refl _) hst) 0 _ z)) (wsr (.int .i64 z1530) 6 z z z (by kernel_rfl) (fun w hst => z) ?_))))))
 obtain ⟨x1546, hx1547, hm⟩ := bind_some hm
 obtain ⟨h1548, h1549, hi1550⟩ := geto_some hx1547
 refine wsr (.pointer (some (eAddr v1542 (z1530.toNat * 2 + 0)))) 7 z z z (by kernel_rfl) (fun w hst => x_index z z underlying105 sizeOf107 (rd_sliceV f1543) h1548 h1549) (wsr (.pointer (some (eAddr v1542 (z1530.toNat * 2 + 0)))) 8 z z z (by kernel_rfl) (fun w hst => x_field_e z underlying107 z sizeOf44 z) ?_)
 obtain ⟨cs1551, hr1552, hc1553⟩ := Rd.getF f1543 hi1550
 obtain ⟨v1554, rfl, f1555, -⟩ := hr1552
 refine wsr (.float .f64 x1546.At) 9 z z z (by kernel_rfl) (fun w hst => x_load z isAgg44 ((hc1553 (HL.le.refl _) hst) 0 _ z)) (wsr (Pt b921 4) 12 z z z (by kernel_rfl) (fun w hst => x_field z underlying41 z sizeOf39 z) (wsr (r1_1) 13 z z z (by kernel_rfl) (fun w hst => x_load z isAgg39 (hst.bc1 z)) (wsr (.int .i64 z1411) 14 z z z (by kernel_rfl) (fun w hst => z) (wsr (.pointer (some (eAddr r1_1 (z1411.toNat * 1 + 0)))) 15 z z z (by kernel_rfl) (fun w hst => x_index z z underlying39 sizeOf105 (rd_sliceV f1_1) h1423 h1424) (wsr (v1542) 16 z z z (by kernel_rfl) (fun w hst => x_load z isAgg105 ((hc1541 (HL.le.refl _) hst) 0 _ z)) (wsr (.int .i64 z1530) 17 z z z (by kernel_rfl) (fun w hst => z) (wsr (.pointer (some (eAddr v1542 (z1530.toNat * 2 + 0)))) 18 z z z (by kernel_rfl) (fun w hst => x_index z z underlying105 sizeOf107 (rd_sliceV f1543) h1548 h1549) (wsr (.pointer (some (eAddr v1542 (z1530.toNat * 2 + 1)))) 19 z z z (by kernel_rfl) (fun w hst => x_field_e z underlying107 z sizeOf22 z) (wsr (v1554) 20 z z z (by kernel_rfl) (fun w hst => x_load z isAgg22 ((hc1553 (HL.le.refl _) hst) 1 _ z)) ?_)))))))))
 refine ws_e1 10 (by kernel_rfl) ?_
 refine nxe [11, 21, 22] (by kernel_rfl) z z ?_
 clear hst
 intro w hst
 obtain ⟨t1557, ht1558, hm⟩ := bind_some hm
 refine wec call61 [F6 x1546.At] z z ?_
 refine (ref01_Rank_ref hst.to0 ht1558).mono ?_
 rintro _ w1559 ⟨rfl, hst⟩
 refine ⟨_, z, ?_⟩
 replace hst := hst.of0
 refine ws_next (pend' := [(20, v1554), (19, .pointer (some (eAddr v1542 (z1530.toNat * 2 + 1)))), (18, .pointer (some (eAddr v1542 (z1530.toNat * 2 + 0)))), (17, I6 z1530), (16, v1542), (15, .pointer (some (eAddr r1_1 (z1411.toNat * 1 + 0)))), (14, I6 z1411), (13, r1_1), (12, Pt b921 4), (0, v1528)]) hst (by kernel_rfl) (pkr z z (fun w hst => x_load z isAgg22 ((hc1553 (HL.le.refl _) hst) 1 _ z)) (pkr z z (fun w hst => x_field_e z underlying107 z sizeOf22 z) (pkr z z (fun w hst => x_index z z underlying105 sizeOf107 (rd_sliceV f1543) h1548 h1549) (pkr z z (fun w hst => z) (pkr z z (fun w hst => x_load z isAgg105 ((hc1541 (HL.le.refl _) hst) 0 _ z)) (pkr z z (fun w hst => x_index z z underlying39 sizeOf105 (rd_sliceV f1_1) h1423 h1424) (pkr z z (fun w hst => z) (pkr z z (fun w hst => x_load z isAgg39 (hst.bc1 z)) (pkr z z (fun w hst => x_field z underlying41 z sizeOf39 z) (pkr z z (fun w hst => z) pk_nil)))))))))) ?_
 refine ws_e1 11 (by kernel_rfl) ?_
 refine nxe [21, 22] (by kernel_rfl) z z ?_
 clear hst
 intro w hst
 obtain ⟨css1562, hq1563, hst⟩ := hst.own_open
 obtain ⟨t1564, ht1565, hm⟩ := bind_some hm
 refine wec call34 [v1528, U6 t1557, I6 (8:Int)] z z ?_
 refine (ref02_Num_ref (hst.rdrow0 hq1563) hst.to0 ht1565).mono ?_
 rintro _ w1566 ⟨v1569, rfl, hst⟩
 refine ⟨_, z, ?_⟩
 replace hst := hst.of1.pull1.own_close hq1563
 refine ws_next (pend' := [(20, v1554), (19, .pointer (some (eAddr v1542 (z1530.toNat * 2 + 1)))), (18, .pointer (some (eAddr v1542 (z1530.toNat * 2 + 0)))), (17, I6 z1530), (16, v1542), (15, .pointer (some (eAddr r1_1 (z1411.toNat * 1 + 0)))), (14, I6 z1411), (13, r1_1), (12, Pt b921 4)]) hst (by kernel_rfl) (pkr z z (fun w hst => x_load z isAgg22 ((hc1553 (HL.le.refl _) hst) 1 _ z)) (pkr z z (fun w hst => x_field_e z underlying107 z sizeOf22 z) (pkr z z (fun w hst => x_index z z underlying105 sizeOf107 (rd_sliceV f1543) h1548 h1549) (pkr z z (fun w hst => z) (pkr z z (fun w hst => x_load z isAgg105 ((hc1541 (HL.le.refl _) hst) 0 _ z)) (pkr z z (fun w hst => x_index z z underlying39 sizeOf105 (rd_sliceV f1_1) h1423 h1424) (pkr z z (fun w hst => z) (pkr z z (fun w hst => x_load z isAgg39 (hst.bc2 z)) (pkr z z (fun w hst => x_field z underlying41 z sizeOf39 z) pk_nil))))))))) ?_
 refine ws_e1 21 (by kernel_rfl) ?_
 refine nxe [22] (by kernel_rfl) z z ?_
 clear hst
 intro w hst
 replace hst := hst.pull1
 obtain ⟨css1571, hq1572, hst⟩ := hst.own_open
 obtain ⟨t1573, ht1574, hm⟩ := bind_some hm
 refine wec call38 [v1569, v1554] z z ?_
 refine (ref02_Bytes_ref (hst.rdrow0 hq1572) (f1555.mono (rd_weak _)) hst.to0 ht1574).mono ?_
 rintro _ w1575 ⟨v1578, rfl, hst⟩
 refine ⟨_, z, ?_⟩
 replace hst := hst.of1.pull1.own_close hq1572
 refine ws_next (pend' := []) hst (by kernel_rfl) pk_nil ?_
 refine ws_e1 22 (by kernel_rfl) ?_
 refine nxe [] (by kernel_rfl) z z ?_
 clear hst
 intro w hst
 refine we_run (v := v1578) (w' := w) z z ?_
 refine ws_next (pend' := []) hst (by kernel_rfl) pk_nil ?_
 refine ws_nil ?_
 intro w hst
 refine blk_n (tn (wrl ?_))
 refine wv (.int .i64 z1530) z z z (wv (.int .i64 (i64.wrap (z1530 + (1:Int)))) z z z (wv (.int .i64 (i64.wrap (z1530 + (1:Int)))) z z z (wl_nil (tn ?_))))
 replace hst := hst.pull3.pull2.keep2
 obtain rfl := some_inj hm
 exact ⟨_, Nat.lt_succ_self _, t1573, (i64.wrap (z1530 + (1:Int))), v1578, _, hx1537, (fu 0 v1578 z (fu 3 (Pt b921 0) z (fu 6 (.int .i64 z1411) z (fu 7 (.int .i64 (i64.wrap (z1530 + (1:Int)))) z z)))), hst⟩
}
 {
 replace hm := bif_f hc1545 hm
 refine wp_iff (cvb hc1545) ?_
 refine wp_exit (then_x (then_x ?_))
 replace hm := inr_up hm hx1537
 refine blk_x (blk_n (tn (wrl ?_)))
 refine wv (.int .i64 z1411) z z z (wv (.int .i64 (i64.wrap (z1411 + (1:Int)))) z z z (wv (.int .i64 (i64.wrap (z1411 + (1:Int)))) z z z (wl_nil (tn ?_))))
 replace hst := hst.pull1.pull1.keep2
 obtain rfl := some_inj hm
 exact ⟨_, Nat.lt_succ_self _, z1527, (i64.wrap (z1411 + (1:Int))), v1528, _, hx1418, (fu 0 v1528 z (fu 3 (Pt b921 0) z (fu 6 (.int .i64 (i64.wrap (z1411 + (1:Int)))) z z))), hst⟩
}
}
 {
 replace hm := bif_f hc1420 hm
 refine wp_iff (cvb hc1420) ?_
 refine wp_exit (then_x (then_x ?_))
 replace hm := inr_up hm hx1418
 refine blk_x (tn (wp_seq (wrl ?_)))
 refine wv (v1409) z z z (wv (v1409) z z z (wl_nil (tn (wp_ret ?_))))
 obtain rfl := some_inj hm
 refine post_ret (vs := [v1409]) results37 (rvs_cons (rv_tmp z) rvs_nil) ?_
 exact ⟨v1409, z, hst.keep1⟩
}
}
}

theorem ref13_Writes_ref {w0 w : World} {I : HL} {R : SP} {a0 : (List Int)} {r0_0 : Value} {a1 : (List api_Write)} {r1_0 : Value} (f0_0 : Rd (tyInt .u8) R I r0_0 a0) (f1_0 : Rd ty_api_Write R I r1_0 a1) (hst : St w0 w I [] R) {r : ((List Int))} (hm : ref13_Writes a0 a1 = some r) :
  Calls prog 62 #[r0_0, r1_0] w fun e w' => ∃ (q0_0 : Value), e = .returned (q0_0) ∧ St w0 w' I [ownS (tyInt .u8) q0_0 r] R := by {
 unfold ref13_Writes at hm
 refine calls_start (args := [r0_0, r1_0]) func62 z ntmps62 (Nat.le_of_ble_eq_true z) ?_
 refine wp_seq (wrl (wv ((.slice none 0 0)) z z z (wl_nil (tn (wp_seq (wrl (wv (r0_0) z z z (wv (r1_0) z z z (wv (.int .i64 ((a1).length : Int)) z z (x_len z underlying42 (rd_sliceV f1_0)) (wv (.int .u64 (u64.wrap ((a1).length : Int))) z z (by kernel_rfl) ?_))))))))))
 obtain ⟨t498, ht499, hm⟩ := bind_some hm
 refine wc call34 [r0_0, U6 (u64.wrap ((a1).length : Int)), I6 (4:Int)] z z z ?_
 refine (ref02_Num_ref (f0_0.mono (rd_weak _)) hst.to0 ht499).mono ?_
 rintro _ w500 ⟨v503, rfl, hst⟩
 refine ⟨_, z, ?_⟩
 replace hst := hst.of1
 refine wv (v503) z z z (wl_nil (tn (wp_seq (wp_seq (wrl (wv (.int .i64 (0:Int)) z z z (wl_nil (tn (wp_block ?_)))))))))
 obtain ⟨n602, hm⟩ := loopO_some hm
 refine wp_loop_n (fun n a w => ∃ (z597 : (List Int)) (z600 : Int) (v598 : Value) (σ601 : Nat → Value), loopN (ref13_Writes_l0 a1) n (z597, z600) = some r ∧ a = Fr 38 (upd (upd (upd σ601 0 (v598)) 1 (r1_0)) 5 (.int .i64 z600)) ∧ St w0 w I [ownS (tyInt .u8) v598 z597] R) n602 ⟨t498, (0:Int), v503, _, hm, (fu 0 v503 z (fu 1 r1_0 z (fu 5 (.int .i64 (0:Int)) z z))), hst⟩ ?_
 rintro n608 _ w603 ⟨z597, z600, v598, σ601, hm, rfl, hst⟩
 obtain ⟨n605, y606, rfl, hm, hx607⟩ := loopN_some hm
 dsimp only [ref13_Writes_l0] at hm
 refine wp_seq (wp_seq (wrl (wv (.int .i64 z600) z z z (wv (r1_0) z z z (wv (.int .i64 ((a1).length : Int)) z z (x_len z underlying42 (rd_sliceV f1_0)) (wv (.bool (decide (z600 < ((a1).length : Int)))) z z z (wl_nil (tn ?_))))))))
 refine bsplit (decide (z600 < ((a1).length : Int))) (fun hc609 => ?_) (fun hc609 => ?_)
 {
 replace hm := bif_t hc609 hm
 refine wp_ift (cvb hc609) ?_
 refine wp_skip (tn (wp_seq (wp_block ?_)))
 refine wp_region_St hst 21 [0, 1, 2, 3, 4, 5, 6, 7, 8, 9, 10, 11, 12, 13, 14, 15, 16, 17, 18, 19, 20] [0, 0, 0, 6, 14, 30, 62, 127, 0, 0, 768, 1792, 3840, 8191, 0, 0, 49152, 114688, 245760, 524287, 1048575] [20] z (by kernel_rfl) (by kernel_rfl) Try.mixed (by kernel_rfl) ?_
 refine wsr (v598) 0 z z z (by kernel_rfl) (fun w hst => z) (wsr (r1_0) 1 z z z (by kernel_rfl) (fun w hst => z) (wsr (.int .i64 z600) 2 z z z (by kernel_rfl) (fun w hst => z) ?_))
 obtain ⟨x610, hx611, hm⟩ := bind_some hm
 obtain ⟨h612, h613, hi614⟩ := geto_some hx611
 refine wsr (.pointer (some (eAddr r1_0 (z600.toNat * 3 + 0)))) 3 z z z (by kernel_rfl) (fun w hst => x_index z z underlying42 sizeOf120 (rd_sliceV f1_0) h612 h613) (wsr (.pointer (some (eAddr r1_0 (z600.toNat * 3 + 0)))) 4 z z z (by kernel_rfl) (fun w hst => x_field_e z underlying120 z sizeOf44 z) ?_)
 obtain ⟨cs615, hr616, hc617⟩ := Rd.getF f1_0 hi614
 obtain ⟨v618, rfl, f619, -⟩ := hr616
 refine wsr (.float .f64 x610.At) 5 z z z (by kernel_rfl) (fun w hst => x_load z isAgg44 ((hc617 (HL.le.refl _) hst) 0 _ z)) (wsr (r1_0) 8 z z z (by kernel_rfl) (fun w hst => z) (wsr (.int .i64 z600) 9 z z z (by kernel_rfl) (fun w hst => z) (wsr (.pointer (some (eAddr r1_0 (z600.toNat * 3 + 0)))) 10 z z z (by kernel_rfl) (fun w hst => x_index z z underlying42 sizeOf120 (rd_sliceV f1_0) h612 h613) (wsr (.pointer (some (eAddr r1_0 (z600.toNat * 3 + 1)))) 11 z z z (by kernel_rfl) (fun w hst => x_field_e z underlying120 z sizeOf4 z) (wsr (.bool x610.Del) 12 z z z (by kernel_rfl) (fun w hst => x_load z isAgg4 ((hc617 (HL.le.refl _) hst) 1 _ z)) (wsr (r1_0) 14 z z z (by kernel_rfl) (fun w hst => z) (wsr (.int .i64 z600) 15 z z z (by kernel_rfl) (fun w hst => z) (wsr (.pointer (some (eAddr r1_0 (z600.toNat * 3 + 0)))) 16 z z z (by kernel_rfl) (fun w hst => x_index z z underlying42 sizeOf120 (rd_sliceV f1_0) h612 h613) (wsr (.pointer (some (eAddr r1_0 (z600.toNat * 3 + 2)))) 17 z z z (by kernel_rfl) (fun w hst => x_field_e z underlying120 z sizeOf22 z) (wsr (v618) 18 z z z (by kernel_rfl) (fun w hst => x_load z isAgg22 ((hc617 (HL.le.refl _) hst) 2 _ z)) ?_))))))))))
 refine ws_e1 6 (by kernel_rfl) ?_
 refine nxe [7, 13, 19, 20] (by kernel_rfl) z z ?_
 clear hst
 intro w hst
 obtain ⟨t621, ht622, hm⟩ := bind_some hm
 refine wec call61 [F6 x610.At] z z ?_
 refine (ref01_Rank_ref hst.to0 ht622).mono ?_
 rintro _ w623 ⟨rfl, hst⟩
 refine ⟨_, z, ?_⟩
 replace hst := hst.of0
 refine ws_next (pend' := [(18, v618), (17, .pointer (some (eAddr r1_0 (z600.toNat * 3 + 2)))), (16, .pointer (some (eAddr r1_0 (z600.toNat * 3 + 0)))), (15, I6 z600), (14, r1_0), (12, .bool x610.Del), (11, .pointer (some (eAddr r1_0 (z600.toNat * 3 + 1)))), (10, .pointer (some (eAddr r1_0 (z600.toNat * 3 + 0)))), (9, I6 z600), (8, r1_0), (0, v598)]) hst (by kernel_rfl) (pkr z z (fun w hst => x_load z isAgg22 ((hc617 (HL.le.refl _) hst) 2 _ z)) (pkr z z (fun w hst => x_field_e z underlying120 z sizeOf22 z) (pkr z z (fun w hst => x_index z z underlying42 sizeOf120 (rd_sliceV f1_0) h612 h613) (pkr z z (fun w hst => z) (pkr z z (fun w hst => z) (pkr z z (fun w hst => x_load z isAgg4 ((hc617 (HL.le.refl _) hst) 1 _ z)) (pkr z z (fun w hst => x_field_e z underlying120 z sizeOf4 z) (pkr z z (fun w hst => x_index z z underlying42 sizeOf120 (rd_sliceV f1_0) h612 h613) (pkr z z (fun w hst => z) (pkr z z (fun w hst => z) (pkr z z (fun w hst => z) pk_nil))))))))))) ?_
 refine ws_e1 7 (by kernel_rfl) ?_
 refine nxe [13, 19, 20] (by kernel_rfl) z z ?_
 clear hst
 intro w hst
 obtain ⟨css626, hq627, hst⟩ := hst.own_open
 obtain ⟨t628, ht629, hm⟩ := bind_some hm
 refine wec call34 [v598, U6 t621, I6 (8:Int)] z z ?_
 refine (ref02_Num_ref (hst.rdrow0 hq627) hst.to0 ht629).mono ?_
 rintro _ w630 ⟨v633, rfl, hst⟩
 refine ⟨_, z, ?_⟩
 replace hst := hst.of1.pull1.own_close hq627
 refine ws_next (pend' := [(18, v618), (17, .pointer (some (eAddr r1_0 (z600.toNat * 3 + 2)))), (16, .pointer (some (eAddr r1_0 (z600.toNat * 3 + 0)))), (15, I6 z600), (14, r1_0), (12, .bool x610.Del), (11, .pointer (some (eAddr r1_0 (z600.toNat * 3 + 1)))), (10, .pointer (some (eAddr r1_0 (z600.toNat * 3 + 0)))), (9, I6 z600), (8, r1_0)]) hst (by kernel_rfl) (pkr z z (fun w hst => x_load z isAgg22 ((hc617 (HL.le.refl _) hst) 2 _ z)) (pkr z z (fun w hst => x_field_e z underlying120 z sizeOf22 z) (pkr z z (fun w hst => x_index z z underlying42 sizeOf120 (rd_sliceV f1_0) h612 h613) (pkr z z (fun w hst => z) (pkr z z (fun w hst => z) (pkr z z (fun w hst => x_load z isAgg4 ((hc617 (HL.le.refl _) hst) 1 _ z)) (pkr z z (fun w hst => x_field_e z underlying120 z sizeOf4 z) (pkr z z (fun w hst => x_index z z underlying42 sizeOf120 (rd_sliceV f1_0) h612 h613) (pkr z z (fun w hst => z) (pkr z z (fun w hst => z) pk_nil)))))))))) ?_
 refine ws_e1 13 (by kernel_rfl) ?_
 refine nxe [19, 20] (by kernel_rfl) z z ?_
 clear hst
 intro w hst
 replace hst := hst.pull1
 obtain ⟨css635, hq636, hst⟩ := hst.own_open
 obtain ⟨t637, ht638, hm⟩ := bind_some hm
 refine wec call60 [v633, .bool x610.Del] z z ?_
 refine (ref02_Flag_ref (hst.rdrow0 hq636) hst.to0 ht638).mono ?_
 rintro _ w639 ⟨v642, rfl, hst⟩
 refine ⟨_, z, ?_⟩
 replace hst := hst.of1.pull1.own_close hq636
 refine ws_next (pend' := [(18, v618), (17, .pointer (some (eAddr r1_0 (z600.toNat * 3 + 2)))), (16, .pointer (some (eAddr r1_0 (z600.toNat * 3 + 0)))), (15, I6 z600), (14, r1_0)]) hst (by kernel_rfl) (pkr z z (fun w hst => x_load z isAgg22 ((hc617 (HL.le.refl _) hst) 2 _ z)) (pkr z z (fun w hst => x_field_e z underlying120 z sizeOf22 z) (pkr z z (fun w hst => x_index z z underlying42 sizeOf120 (rd_sliceV f1_0) h612 h613) (pkr z z (fun w hst => z) (pkr z z (fun w hst => z) pk_nil))))) ?_
 refine ws_e1 19 (by kernel_rfl) ?_
 refine nxe [20] (by kernel_rfl) z z ?_
 clear hst
 intro w hst
 replace hst := hst.pull1
 obtain ⟨css644, hq645, hst⟩ := hst.own_open
 obtain ⟨t646, ht647, hm⟩ := bind_some hm
 refine wec call38 [v642, v618] z z ?_
 refine (ref02_Bytes_ref (hst.rdrow0 hq645) (f619.mono (rd_weak _)) hst.to0 ht647).mono ?_
 rintro _ w648 ⟨v651, rfl, hst⟩
 refine ⟨_, z, ?_⟩
 replace hst := hst.of1.pull1.own_close hq645
 refine ws_next (pend' := []) hst (by kernel_rfl) pk_nil ?_
 refine ws_e1 20 (by kernel_rfl) ?_
 refine nxe [] (by kernel_rfl) z z ?_
 clear hst
 intro w hst
 refine we_run (v := v651) (w' := w) z z ?_
 refine ws_next (pend' := []) hst (by kernel_rfl) pk_nil ?_
 refine ws_nil ?_
 intro w hst
 refine blk_n (tn (wrl ?_))
 refine wv (.int .i64 z600) z z z (wv (.int .i64 (i64.wrap (z600 + (1:Int)))) z z z (wv (.int .i64 (i64.wrap (z600 + (1:Int)))) z z z (wl_nil (tn ?_))))
 replace hst := hst.pull1.keep1
 obtain rfl := some_inj hm
 exact ⟨_, Nat.lt_succ_self _, t646, (i64.wrap (z600 + (1:Int))), v651, _, hx607, (fu 0 v651 z (fu 1 r1_0 z (fu 5 (.int .i64 (i64.wrap (z600 + (1:Int)))) z z))), hst⟩
}
 {
 replace hm := bif_f hc609 hm
 refine wp_iff (cvb hc609) ?_
 refine wp_exit (then_x (then_x ?_))
 replace hm := inr_up hm hx607
 refine blk_x (tn (wp_seq (wrl ?_)))
 refine wv (v598) z z z (wv (v598) z z z (wl_nil (tn (wp_ret ?_))))
 obtain rfl := some_inj hm
 refine post_ret (vs := [v598]) results62 (rvs_cons (rv_tmp z) rvs_nil) ?_
 exact ⟨v598, z, hst.keep1⟩
}
}

theorem ref13_Rule_ref {w0 w : World} {I : HL} {R : SP} {a0 : (List Int)} {r0_0 : Value} {a1 : api_Rule} (f0_0 : Rd (tyInt .u8) R I r0_0 a0) (hst : St w0 w I [] R) {r : ((List Int))} (hm : ref13_Rule a0 a1 = some r) :
  Calls prog 63 #[r0_0, .agg #[U6 a1.ID, I6 a1.From, I6 a1.To, F6 a1.Lo, F6 a1.Hi, U6 a1.Authority, I6 a1.Quota]] w fun e w' => ∃ (q0_0 : Value), e = .returned (q0_0) ∧ St w0 w' I [ownS (tyInt .u8) q0_0 r] R := by {
 unfold ref13_Rule at hm
 refine calls_start (args := [r0_0, .agg #[U6 a1.ID, I6 a1.From, I6 a1.To, F6 a1.Lo, F6 a1.Hi, U6 a1.Authority, I6 a1.Quota]]) func63 z ntmps63 (Nat.le_of_ble_eq_true z) ?_
 refine wp_seq (wrl ?_)
 obtain ⟨b614, w615, ew616, eb617, hst⟩ := hst.box [U6 a1.ID, I6 a1.From, I6 a1.To, F6 a1.Lo, F6 a1.Hi, U6 a1.Authority, I6 a1.Quota] 46
 refine wl_run (v := Pt b614 0) (w' := w615) z z (x_al (by kernel_rfl) ew616 eb617) ?_
 refine wv ((.slice none 0 0)) z z z (wl_nil (tn (wp_seq (wrl (wv (r0_0) z z z (wv (Pt b614 0) z z (x_field z underlying46 z sizeOf25 z) (wv (.int .u64 a1.ID) z z (x_load z isAgg25 (hst.bc0 z)) ?_)))))))
 obtain ⟨t620, ht621, hm⟩ := bind_some hm
 refine wc call34 [r0_0, U6 a1.ID, I6 (8:Int)] z z z ?_
 refine (ref02_Num_ref (f0_0.mono (rd_weak _)) hst.to0 ht621).mono ?_
 rintro _ w622 ⟨v625, rfl, hst⟩
 refine ⟨_, z, ?_⟩
 replace hst := hst.of1
 refine wv (v625) z z z (wl_nil (tn (wp_seq ?_)))
 refine wp_region_St hst 10 [0, 1, 2, 3, 4, 5, 6, 7, 8, 9] [0, 0, 2, 6, 15, 0, 32, 96, 255, 511] [9] z (by kernel_rfl) (by kernel_rfl) Try.mixed (by kernel_rfl) ?_
 refine wsr (v625) 0 z z z (by kernel_rfl) (fun w hst => z) (wsr (Pt b614 1) 1 z z z (by kernel_rfl) (fun w hst => x_field z underlying46 z sizeOf3 z) (wsr (.int .i64 a1.From) 2 z z z (by kernel_rfl) (fun w hst => x_load z isAgg3 (hst.bc1 z)) (wsr (.int .u64 (u64.wrap a1.From)) 3 z z z (by kernel_rfl) (fun w hst => by kernel_rfl) (wsr (Pt b614 2) 5 z z z (by kernel_rfl) (fun w hst => x_field z underlying46 z sizeOf3 z) (wsr (.int .i64 a1.To) 6 z z z (by kernel_rfl) (fun w hst => x_load z isAgg3 (hst.bc1 z)) (wsr (.int .u64 (u64.wrap a1.To)) 7 z z z (by kernel_rfl) (fun w hst => by kernel_rfl) ?_))))))
 refine ws_e1 4 (by kernel_rfl) ?_
 refine nxe [8, 9] (by kernel_rfl) z z ?_
 clear hst
 intro w hst
 obtain ⟨css627, hq628, hst⟩ := hst.own_open
 obtain ⟨t629, ht630, hm⟩ := bind_some hm
 refine wec call34 [v625, U6 (u64.wrap a1.From), I6 (1:Int)] z z ?_
 refine (ref02_Num_ref (hst.rdrow0 hq628) hst.to0 ht630).mono ?_
 rintro _ w631 ⟨v634, rfl, hst⟩
 refine ⟨_, z, ?_⟩
 replace hst := hst.of1.pull1.own_close hq628
 refine ws_next (pend' := [(7, U6 (u64.wrap a1.To)), (6, I6 a1.To), (5, Pt b614 2)]) hst (by kernel_rfl) (pkr z z (fun w hst => by kernel_rfl) (pkr z z (fun w hst => x_load z isAgg3 (hst.bc2 z)) (pkr z z (fun w hst => x_field z underlying46 z sizeOf3 z) pk_nil))) ?_
 refine ws_e1 8 (by kernel_rfl) ?_
 refine nxe [9] (by kernel_rfl) z z ?_
 clear hst
 intro w hst
 replace hst := hst.pull1
 obtain ⟨css636, hq637, hst⟩ := hst.own_open
 obtain ⟨t638, ht639, hm⟩ := bind_some hm
 refine wec call34 [v634, U6 (u64.wrap a1.To), I6 (1:Int)] z z ?_
 refine (ref02_Num_ref (hst.rdrow0 hq637) hst.to0 ht639).mono ?_
 rintro _ w640 ⟨v643, rfl, hst⟩
 refine ⟨_, z, ?_⟩
 replace hst := hst.of1.pull1.own_close hq637
 refine ws_next (pend' := []) hst (by kernel_rfl) pk_nil ?_
 refine ws_e1 9 (by kernel_rfl) ?_
 refine nxe [] (by kernel_rfl) z z ?_
 clear hst
 intro w hst
 refine we_run (v := v643) (w' := w) z z ?_
 refine ws_next (pend' := []) hst (by kernel_rfl) pk_nil ?_
 refine ws_nil ?_
 intro w hst
 refine tn (wp_seq ?_)
 refine wp_region_St hst 10 [0, 1, 2, 3, 4, 5, 6, 7, 8, 9] [0, 0, 2, 6, 15, 0, 32, 127, 255, 511] [9] z (by kernel_rfl) (by kernel_rfl) Try.mixed (by kernel_rfl) ?_
 refine wsr (v643) 0 z z z (by kernel_rfl) (fun w hst => z) (wsr (Pt b614 3) 1 z z z (by kernel_rfl) (fun w hst => x_field z underlying46 z sizeOf44 z) (wsr (.float .f64 a1.Lo) 2 z z z (by kernel_rfl) (fun w hst => x_load z isAgg44 (hst.bc3 z)) (wsr (Pt b614 4) 5 z z z (by kernel_rfl) (fun w hst => x_field z underlying46 z sizeOf44 z) (wsr (.float .f64 a1.Hi) 6 z z z (by kernel_rfl) (fun w hst => x_load z isAgg44 (hst.bc3 z)) ?_))))
 refine ws_e1 3 (by kernel_rfl) ?_
 refine nxe [4, 7, 8, 9] (by kernel_rfl) z z ?_
 clear hst
 intro w hst
 obtain ⟨t645, ht646, hm⟩ := bind_some hm
 refine wec call61 [F6 a1.Lo] z z ?_
 refine (ref01_Rank_ref hst.to0 ht646).mono ?_
 rintro _ w647 ⟨rfl, hst⟩
 refine ⟨_, z, ?_⟩
 replace hst := hst.of0
 refine ws_next (pend' := [(6, F6 a1.Hi), (5, Pt b614 4), (0, v643)]) hst (by kernel_rfl) (pkr z z (fun w hst => x_load z isAgg44 (hst.bc3 z)) (pkr z z (fun w hst => x_field z underlying46 z sizeOf44 z) (pkr z z (fun w hst => z) pk_nil))) ?_
 refine ws_e1 4 (by kernel_rfl) ?_
 refine nxe [7, 8, 9] (by kernel_rfl) z z ?_
 clear hst
 intro w hst
 replace hst := hst.pull1
 obtain ⟨css650, hq651, hst⟩ := hst.own_open
 obtain ⟨t652, ht653, hm⟩ := bind_some hm
 refine wec call34 [v643, U6 t645, I6 (8:Int)] z z ?_
 refine (ref02_Num_ref (hst.rdrow0 hq651) hst.to0 ht653).mono ?_
 rintro _ w654 ⟨v657, rfl, hst⟩
 refine ⟨_, z, ?_⟩
 replace hst := hst.of1.pull1.own_close hq651
 refine ws_next (pend' := [(6, F6 a1.Hi), (5, Pt b614 4)]) hst (by kernel_rfl) (pkr z z (fun w hst => x_load z isAgg44 (hst.bc4 z)) (pkr z z (fun w hst => x_field z underlying46 z sizeOf44 z) pk_nil)) ?_
 refine ws_e1 7 (by kernel_rfl) ?_
 refine nxe [8, 9] (by kernel_rfl) z z ?_
 clear hst
 intro w hst
 obtain ⟨t659, ht660, hm⟩ := bind_some hm
 refine wec call61 [F6 a1.Hi] z z ?_
 refine (ref01_Rank_ref hst.to0 ht660).mono ?_
 rintro _ w661 ⟨rfl, hst⟩
 refine ⟨_, z, ?_⟩
 replace hst := hst.of0
 refine ws_next (pend' := []) hst (by kernel_rfl) pk_nil ?_
 refine ws_e1 8 (by kernel_rfl) ?_
 refine nxe [9] (by kernel_rfl) z z ?_
 clear hst
 intro w hst
 replace hst := hst.pull1
 obtain ⟨css664, hq665, hst⟩ := hst.own_open
 obtain ⟨t666, ht667, hm⟩ := bind_some hm
 refine wec call34 [v657, U6 t659, I6 (8:Int)] z z ?_
 refine (ref02_Num_ref (hst.rdrow0 hq665) hst.to0 ht667).mono ?_
 rintro _ w668 ⟨v671, rfl, hst⟩
 refine ⟨_, z, ?_⟩
 replace hst := hst.of1.pull1.own_close hq665
 refine ws_next (pend' := []) hst (by kernel_rfl) pk_nil ?_
 refine ws_e1 9 (by kernel_rfl) ?_
 refine nxe [] (by kernel_rfl) z z ?_
 clear hst
 intro w hst
 refine we_run (v := v671) (w' := w) z z ?_
 refine ws_next (pend' := []) hst (by kernel_rfl) pk_nil ?_
 refine ws_nil ?_
 intro w hst
 refine tn (wp_seq ?_)
 refine wp_region_St hst 9 [0, 1, 2, 3, 4, 5, 6, 7, 8] [0, 0, 2, 7, 0, 16, 48, 127, 255] [] z (by kernel_rfl) (by kernel_rfl) Try.mixed (by kernel_rfl) ?_
 refine wsr (v671) 0 z z z (by kernel_rfl) (fun w hst => z) (wsr (Pt b614 5) 1 z z z (by kernel_rfl) (fun w hst => x_field z underlying46 z sizeOf25 z) (wsr (.int .u64 a1.Authority) 2 z z z (by kernel_rfl) (fun w hst => x_load z isAgg25 (hst.bc5 z)) (wsr (Pt b614 6) 4 z z z (by kernel_rfl) (fun w hst => x_field z underlying46 z sizeOf3 z) (wsr (.int .i64 a1.Quota) 5 z z z (by kernel_rfl) (fun w hst => x_load z isAgg3 (hst.bc5 z)) (wsr (.int .u64 (u64.wrap a1.Quota)) 6 z z z (by kernel_rfl) (fun w hst => by kernel_rfl) ?_)))))
 refine ws_e1 3 (by kernel_rfl) ?_
 refine nxe [7, 8] (by kernel_rfl) z z ?_
 clear hst
 intro w hst
 replace hst := hst.pull1
 obtain ⟨css673, hq674, hst⟩ := hst.own_open
 obtain ⟨t675, ht676, hm⟩ := bind_some hm
 refine wec call34 [v671, U6 a1.Authority, I6 (8:Int)] z z ?_
 refine (ref02_Num_ref (hst.rdrow0 hq674) hst.to0 ht676).mono ?_
 rintro _ w677 ⟨v680, rfl, hst⟩
 refine ⟨_, z, ?_⟩
 replace hst := hst.of1.pull1.own_close hq674
 refine ws_next (pend' := [(6, U6 (u64.wrap a1.Quota)), (5, I6 a1.Quota), (4, Pt b614 6)]) hst (by kernel_rfl) (pkr z z (fun w hst => by kernel_rfl) (pkr z z (fun w hst => x_load z isAgg3 (hst.bc6 z)) (pkr z z (fun w hst => x_field z underlying46 z sizeOf3 z) pk_nil))) ?_
 refine ws_e1 7 (by kernel_rfl) ?_
 refine nxe [8] (by kernel_rfl) z z ?_
 clear hst
 intro w hst
 replace hst := hst.pull1
 obtain ⟨css682, hq683, hst⟩ := hst.own_open
 obtain ⟨t684, ht685, hm⟩ := bind_some hm
 refine wec call34 [v680, U6 (u64.wrap a1.Quota), I6 (4:Int)] z z ?_
 refine (ref02_Num_ref (hst.rdrow0 hq683) hst.to0 ht685).mono ?_
 rintro _ w686 ⟨v689, rfl, hst⟩
 refine ⟨_, z, ?_⟩
 replace hst := hst.of1.pull1.own_close hq683
 refine ws_next (pend' := []) hst (by kernel_rfl) pk_nil ?_
 refine wsr (v689) 8 z z z (by kernel_rfl) (fun w hst => z) ?_
 refine ws_nil ?_
 intro w hst
 refine tn (wp_ret ?_)
 obtain rfl := some_inj hm
 refine post_ret (vs := [v689]) results63 (rvs_cons (rv_tmp z) rvs_nil) ?_
 replace hst := hst.pull1
 exact ⟨v689, z, hst.keep1⟩
}

theorem ref13_Command_ref {w0 w : World} {I : HL} {R : SP} {a0 : api_Command} {r0_0 : Value} {r0_1 : Value} {r0_2 : Value} {r0_3 : Value} {r0_4 : Value} {r0_5 : Value} {r0_6 : Value} {r0_7 : Value} (f0_0 : Rd tyF64 R I r0_0 a0.Hold.Gets) (f0_1 : Rd tyF2 R I r0_1 a0.Hold.Scans) (f0_2 : Rd tyF64 R I r0_2 a0.Hold.Puts) (f0_3 : Rd (tyInt .u8) R I r0_3 a0.Hold.Data) (f0_4 : Rd ty_api_Write R I r0_4 a0.Writes) (f0_5 : Rd ty_api_Got R I r0_5 a0.R.Gots) (f0_6 : Rd (tySl ty_api_Pair) R I r0_6 a0.R.Scans) (f0_7 : Rd ty_api_Part R I r0_7 a0.Parts) (hst : St w0 w I [] R) {r : ((List Int))} (hm : ref13_Command a0 = some r) :
  Calls prog 39 #[.agg #[U1 a0.Kind, U6 a0.ID.Session, U6 a0.ID.Seq, U6 a0.Epoch, U6 a0.Index, I6 a0.E, U6 a0.Hold.ID.Session, U6 a0.Hold.ID.Seq, U6 a0.Hold.Epoch, r0_0, r0_1, r0_2, r0_3, r0_4, I6 a0.R.E, U6 a0.R.Epoch, U6 a0.R.Index, r0_5, r0_6, U6 a0.Shards, r0_7, U6 a0.Rule.ID, I6 a0.Rule.From, I6 a0.Rule.To, F6 a0.Rule.Lo, F6 a0.Rule.Hi, U6 a0.Rule.Authority, I6 a0.Rule.Quota, .bool a0.On]] w fun e w' => ∃ (q0_0 : Value), e = .returned (q0_0) ∧ St w0 w' I [ownS (tyInt .u8) q0_0 r] R := by {
 unfold ref13_Command at hm
 refine calls_start (args := [.agg #[U1 a0.Kind, U6 a0.ID.Session, U6 a0.ID.Seq, U6 a0.Epoch, U6 a0.Index, I6 a0.E, U6 a0.Hold.ID.Session, U6 a0.Hold.ID.Seq, U6 a0.Hold.Epoch, r0_0, r0_1, r0_2, r0_3, r0_4, I6 a0.R.E, U6 a0.R.Epoch, U6 a0.R.Index, r0_5, r0_6, U6 a0.Shards, r0_7, U6 a0.Rule.ID, I6 a0.Rule.From, I6 a0.Rule.To, F6 a0.Rule.Lo, F6 a0.Rule.Hi, U6 a0.Rule.Authority, I6 a0.Rule.Quota, .bool a0.On]]) func39 z ntmps39 (Nat.le_of_ble_eq_true z) ?_
 refine wp_seq (wrl ?_)
 obtain ⟨b607, w608, ew609, eb610, hst⟩ := hst.box [U1 a0.Kind, U6 a0.ID.Session, U6 a0.ID.Seq, U6 a0.Epoch, U6 a0.Index, I6 a0.E, U6 a0.Hold.ID.Session, U6 a0.Hold.ID.Seq, U6 a0.Hold.Epoch, r0_0, r0_1, r0_2, r0_3, r0_4, I6 a0.R.E, U6 a0.R.Epoch, U6 a0.R.Index, r0_5, r0_6, U6 a0.Shards, r0_7, U6 a0.Rule.ID, I6 a0.Rule.From, I6 a0.Rule.To, F6 a0.Rule.Lo, F6 a0.Rule.Hi, U6 a0.Rule.Authority, I6 a0.Rule.Quota, .bool a0.On] 48
 refine wl_run (v := Pt b607 0) (w' := w608) z z (x_al (by kernel_rfl) ew609 eb610) ?_
 refine wv ((.slice none 0 0)) z z z (wl_nil (tn (wp_seq (wrl (wv (Pt b607 0) z z (x_field z underlying48 z sizeOf5 z) (wv (.int .u8 a0.Kind) z z (x_load z isAgg5 (hst.bc0 z)) (wv (.int .u64 (u64.wrap a0.Kind)) z z (by kernel_rfl) ?_)))))))
 have f614 : Ro (tyInt .u8) I (.slice none 0 0) [] := ro_nil
 obtain ⟨t615, ht616, hm⟩ := bind_some hm
 refine wc call34 [Zs, U6 (u64.wrap a0.Kind), I6 (1:Int)] z z z ?_
 refine (ref02_Num_ref (f614.mono ro_rd) hst.to0 ht616).mono ?_
 rintro _ w617 ⟨v620, rfl, hst⟩
 refine ⟨_, z, ?_⟩
 replace hst := hst.of1
 refine wv (v620) z z z (wl_nil (tn (wp_seq (wp_seq (wrl (wv (Pt b607 0) z z (x_field z underlying48 z sizeOf5 z) (wv (.int .u8 a0.Kind) z z (x_load z isAgg5 (hst.bc1 z)) (wl_nil (tn (wp_block (wp_seq (wrl (wv (.bool (a0.Kind == (1:Int))) z z z (wv (.bool (a0.Kind == (1:Int))) z z z (wl_nil (tn ?_))))))))))))))))
 refine bsplit (a0.Kind == (1:Int)) (fun hc622 => ?_) (fun hc622 => ?_)
 {
 replace hm := bif_t hc622 hm
 refine wp_ift (cvb hc622) ?_
 refine wp_seq (wrl (wv (v620) z z z (wv (Pt b607 3) z z (x_field z underlying48 z sizeOf25 z) (wv (.int .u64 a0.Epoch) z z (x_load z isAgg25 (hst.bc1 z)) ?_))))
 obtain ⟨css623, hq624, hst⟩ := hst.own_open
 obtain ⟨t625, ht626, hm⟩ := bind_some hm
 refine wc call34 [v620, U6 a0.Epoch, I6 (8:Int)] z z z ?_
 refine (ref02_Num_ref (hst.rdrow0 hq624) hst.to0 ht626).mono ?_
 rintro _ w627 ⟨v630, rfl, hst⟩
 refine ⟨_, z, ?_⟩
 replace hst := hst.of1.pull1.own_close hq624
 refine wv (v630) z z z (wl_nil (tn (wp_ret (blk_r (then_r ?_)))))
 obtain rfl := some_inj hm
 refine post_ret (vs := [v630]) results39 (rvs_cons (rv_tmp z) rvs_nil) ?_
 replace hst := hst.pull1
 exact ⟨v630, z, hst.keep1⟩
}
 {
 replace hm := bif_f hc622 hm
 refine wp_iff (cvb hc622) ?_
 refine wp_seq (wrl (wv (.bool (a0.Kind == (2:Int))) z z z (wv (.bool (a0.Kind == (2:Int))) z z z (wl_nil (tn ?_)))))
 refine bsplit (a0.Kind == (2:Int)) (fun hc632 => ?_) (fun hc632 => ?_)
 {
 replace hm := bif_t hc632 hm
 refine wp_ift (cvb hc632) ?_
 refine wp_seq (wrl (wv (v620) z z z (wv (Pt b607 6) z z (x_field z underlying48 z sizeOf36 z) (wv (.agg #[U6 a0.Hold.ID.Session, U6 a0.Hold.ID.Seq, U6 a0.Hold.Epoch, r0_0, r0_1, r0_2, r0_3]) z z (x_loadN (cs := [U6 a0.Hold.ID.Session, U6 a0.Hold.ID.Seq, U6 a0.Hold.Epoch, r0_0, r0_1, r0_2, r0_3]) z isAgg36 sizeOf36 (hst.bcs1 6 z)) ?_))))
 obtain ⟨css633, hq634, hst⟩ := hst.own_open
 obtain ⟨t635, ht636, hm⟩ := bind_some hm
 refine wc call36 [v620, .agg #[U6 a0.Hold.ID.Session, U6 a0.Hold.ID.Seq, U6 a0.Hold.Epoch, r0_0, r0_1, r0_2, r0_3]] z z z ?_
 refine (ref12_Hold_ref (hst.rdrow0 hq634) (f0_0.mono (rd_weak _)) (f0_1.mono (rd_weak _)) (f0_2.mono (rd_weak _)) (f0_3.mono (rd_weak _)) hst.to0 ht636).mono ?_
 rintro _ w637 ⟨v640, rfl, hst⟩
 refine ⟨_, z, ?_⟩
 replace hst := hst.of1.pull1.own_close hq634
 refine wv (v640) z z z (wl_nil (tn (wp_ret (blk_r (then_r ?_)))))
 obtain rfl := some_inj hm
 refine post_ret (vs := [v640]) results39 (rvs_cons (rv_tmp z) rvs_nil) ?_
 replace hst := hst.pull1
 exact ⟨v640, z, hst.keep1⟩
}
 {
 replace hm := bif_f hc632 hm
 refine wp_iff (cvb hc632) ?_
 refine wp_seq (wrl (wv (.bool (a0.Kind == (3:Int))) z z z (wv (.bool (a0.Kind == (3:Int))) z z z (wl_nil (tn ?_)))))
 refine bsplit (a0.Kind == (3:Int)) (fun hc642 => ?_) (fun hc642 => ?_)
 {
 replace hm := bif_t hc642 hm
 refine wp_ift (cvb hc642) ?_
 refine wp_seq ?_
 refine wp_region_St hst 9 [0, 1, 2, 3, 4, 5, 6, 7, 8] [0, 0, 2, 7, 0, 16, 48, 127, 255] [8] z (by kernel_rfl) (by kernel_rfl) Try.mixed (by kernel_rfl) ?_
 refine wsr (v620) 0 z z z (by kernel_rfl) (fun w hst => z) (wsr (Pt b607 1) 1 z z z (by kernel_rfl) (fun w hst => x_field z underlying48 z sizeOf32 z) (wsr (.agg #[U6 a0.ID.Session, U6 a0.ID.Seq]) 2 z z z (by kernel_rfl) (fun w hst => x_loadN (cs := [U6 a0.ID.Session, U6 a0.ID.Seq]) z isAgg32 sizeOf32 (hst.bcs1 1 z)) (wsr (Pt b607 5) 4 z z z (by kernel_rfl) (fun w hst => x_field z underlying48 z sizeOf37 z) (wsr (.int .i64 a0.E) 5 z z z (by kernel_rfl) (fun w hst => x_load z isAgg37 (hst.bc1 z)) (wsr (.int .u64 (u64.wrap a0.E)) 6 z z z (by kernel_rfl) (fun w hst => by kernel_rfl) ?_)))))
 refine ws_e1 3 (by kernel_rfl) ?_
 refine nxe [7, 8] (by kernel_rfl) z z ?_
 clear hst
 intro w hst
 obtain ⟨css643, hq644, hst⟩ := hst.own_open
 obtain ⟨t645, ht646, hm⟩ := bind_some hm
 refine wec call40 [v620, .agg #[U6 a0.ID.Session, U6 a0.ID.Seq]] z z ?_
 refine (ref12_ID_ref (hst.rdrow0 hq644) hst.to0 ht646).mono ?_
 rintro _ w647 ⟨v650, rfl, hst⟩
 refine ⟨_, z, ?_⟩
 replace hst := hst.of1.pull1.own_close hq644
 refine ws_next (pend' := [(6, U6 (u64.wrap a0.E)), (5, I6 a0.E), (4, Pt b607 5)]) hst (by kernel_rfl) (pkr z z (fun w hst => by kernel_rfl) (pkr z z (fun w hst => x_load z isAgg37 (hst.bc2 z)) (pkr z z (fun w hst => x_field z underlying48 z sizeOf37 z) pk_nil))) ?_
 refine ws_e1 7 (by kernel_rfl) ?_
 refine nxe [8] (by kernel_rfl) z z ?_
 clear hst
 intro w hst
 replace hst := hst.pull1
 obtain ⟨css652, hq653, hst⟩ := hst.own_open
 obtain ⟨t654, ht655, hm⟩ := bind_some hm
 refine wec call34 [v650, U6 (u64.wrap a0.E), I6 (1:Int)] z z ?_
 refine (ref02_Num_ref (hst.rdrow0 hq653) hst.to0 ht655).mono ?_
 rintro _ w656 ⟨v659, rfl, hst⟩
 refine ⟨_, z, ?_⟩
 replace hst := hst.of1.pull1.own_close hq653
 refine ws_next (pend' := []) hst (by kernel_rfl) pk_nil ?_
 refine ws_e1 8 (by kernel_rfl) ?_
 refine nxe [] (by kernel_rfl) z z ?_
 clear hst
 intro w hst
 refine we_run (v := v659) (w' := w) z z ?_
 refine ws_next (pend' := []) hst (by kernel_rfl) pk_nil ?_
 refine ws_nil ?_
 intro w hst
 refine tn (wp_seq ?_)
 refine wp_region_St hst 11 [0, 1, 2, 3, 4, 5, 6, 7, 8, 9, 10] [0, 0, 2, 7, 0, 16, 63, 0, 128, 511, 1023] [] z (by kernel_rfl) (by kernel_rfl) Try.mixed (by kernel_rfl) ?_
 refine wsr (v659) 0 z z z (by kernel_rfl) (fun w hst => z) (wsr (Pt b607 3) 1 z z z (by kernel_rfl) (fun w hst => x_field z underlying48 z sizeOf25 z) (wsr (.int .u64 a0.Epoch) 2 z z z (by kernel_rfl) (fun w hst => x_load z isAgg25 (hst.bc3 z)) (wsr (Pt b607 4) 4 z z z (by kernel_rfl) (fun w hst => x_field z underlying48 z sizeOf25 z) (wsr (.int .u64 a0.Index) 5 z z z (by kernel_rfl) (fun w hst => x_load z isAgg25 (hst.bc3 z)) (wsr (Pt b607 13) 7 z z z (by kernel_rfl) (fun w hst => x_field z underlying48 z sizeOf42 z) (wsr (r0_4) 8 z z z (by kernel_rfl) (fun w hst => x_load z isAgg42 (hst.bc3 z)) ?_))))))
 refine ws_e1 3 (by kernel_rfl) ?_
 refine nxe [6, 9, 10] (by kernel_rfl) z z ?_
 clear hst
 intro w hst
 replace hst := hst.pull1
 obtain ⟨css661, hq662, hst⟩ := hst.own_open
 obtain ⟨t663, ht664, hm⟩ := bind_some hm
 refine wec call34 [v659, U6 a0.Epoch, I6 (8:Int)] z z ?_
 refine (ref02_Num_ref (hst.rdrow0 hq662) hst.to0 ht664).mono ?_
 rintro _ w665 ⟨v668, rfl, hst⟩
 refine ⟨_, z, ?_⟩
 replace hst := hst.of1.pull1.own_close hq662
 refine ws_next (pend' := [(8, r0_4), (7, Pt b607 13), (5, U6 a0.Index), (4, Pt b607 4)]) hst (by kernel_rfl) (pkr z z (fun w hst => x_load z isAgg42 (hst.bc4 z)) (pkr z z (fun w hst => x_field z underlying48 z sizeOf42 z) (pkr z z (fun w hst => x_load z isAgg25 (hst.bc4 z)) (pkr z z (fun w hst => x_field z underlying48 z sizeOf25 z) pk_nil)))) ?_
 refine ws_e1 6 (by kernel_rfl) ?_
 refine nxe [9, 10] (by kernel_rfl) z z ?_
 clear hst
 intro w hst
 replace hst := hst.pull1
 obtain ⟨css670, hq671, hst⟩ := hst.own_open
 obtain ⟨t672, ht673, hm⟩ := bind_some hm
 refine wec call34 [v668, U6 a0.Index, I6 (8:Int)] z z ?_
 refine (ref02_Num_ref (hst.rdrow0 hq671) hst.to0 ht673).mono ?_
 rintro _ w674 ⟨v677, rfl, hst⟩
 refine ⟨_, z, ?_⟩
 replace hst := hst.of1.pull1.own_close hq671
 refine ws_next (pend' := [(8, r0_4), (7, Pt b607 13)]) hst (by kernel_rfl) (pkr z z (fun w hst => x_load z isAgg42 (hst.bc5 z)) (pkr z z (fun w hst => x_field z underlying48 z sizeOf42 z) pk_nil)) ?_
 refine ws_e1 9 (by kernel_rfl) ?_
 refine nxe [10] (by kernel_rfl) z z ?_
 clear hst
 intro w hst
 replace hst := hst.pull1
 obtain ⟨css679, hq680, hst⟩ := hst.own_open
 obtain ⟨t681, ht682, hm⟩ := bind_some hm
 refine wec call62 [v677, r0_4] z z ?_
 refine (ref13_Writes_ref (hst.rdrow0 hq680) (f0_4.mono (rd_weak _)) hst.to0 ht682).mono ?_
 rintro _ w683 ⟨v686, rfl, hst⟩
 refine ⟨_, z, ?_⟩
 replace hst := hst.of1.pull1.own_close hq680
 refine ws_next (pend' := []) hst (by kernel_rfl) pk_nil ?_
 refine wsr (v686) 10 z z z (by kernel_rfl) (fun w hst => z) ?_
 refine ws_nil ?_
 intro w hst
 refine tn (wp_ret (blk_r (then_r ?_)))
 obtain rfl := some_inj hm
 refine post_ret (vs := [v686]) results39 (rvs_cons (rv_tmp z) rvs_nil) ?_
 replace hst := hst.pull1
 exact ⟨v686, z, hst.keep1⟩
}
 {
 replace hm := bif_f hc642 hm
 refine wp_iff (cvb hc642) ?_
 refine wp_seq (wrl (wv (.bool (a0.Kind == (4:Int))) z z z (wv (.bool (a0.Kind == (4:Int))) z z z (wl_nil (tn ?_)))))
 refine bsplit (a0.Kind == (4:Int)) (fun hc688 => ?_) (fun hc688 => ?_)
 {
 replace hm := bif_t hc688 hm
 refine wp_ift (cvb hc688) ?_
 refine wp_seq ?_
 refine wp_region_St hst 8 [0, 1, 2, 3, 4, 5, 6, 7] [0, 0, 2, 7, 0, 16, 63, 127] [7] z (by kernel_rfl) (by kernel_rfl) Try.mixed (by kernel_rfl) ?_
 refine wsr (v620) 0 z z z (by kernel_rfl) (fun w hst => z) (wsr (Pt b607 1) 1 z z z (by kernel_rfl) (fun w hst => x_field z underlying48 z sizeOf32 z) (wsr (.agg #[U6 a0.ID.Session, U6 a0.ID.Seq]) 2 z z z (by kernel_rfl) (fun w hst => x_loadN (cs := [U6 a0.ID.Session, U6 a0.ID.Seq]) z isAgg32 sizeOf32 (hst.bcs1 1 z)) (wsr (Pt b607 3) 4 z z z (by kernel_rfl) (fun w hst => x_field z underlying48 z sizeOf25 z) (wsr (.int .u64 a0.Epoch) 5 z z z (by kernel_rfl) (fun w hst => x_load z isAgg25 (hst.bc1 z)) ?_))))
 refine ws_e1 3 (by kernel_rfl) ?_
 refine nxe [6, 7] (by kernel_rfl) z z ?_
 clear hst
 intro w hst
 obtain ⟨css689, hq690, hst⟩ := hst.own_open
 obtain ⟨t691, ht692, hm⟩ := bind_some hm
 refine wec call40 [v620, .agg #[U6 a0.ID.Session, U6 a0.ID.Seq]] z z ?_
 refine (ref12_ID_ref (hst.rdrow0 hq690) hst.to0 ht692).mono ?_
 rintro _ w693 ⟨v696, rfl, hst⟩
 refine ⟨_, z, ?_⟩
 replace hst := hst.of1.pull1.own_close hq690
 refine ws_next (pend' := [(5, U6 a0.Epoch), (4, Pt b607 3)]) hst (by kernel_rfl) (pkr z z (fun w hst => x_load z isAgg25 (hst.bc2 z)) (pkr z z (fun w hst => x_field z underlying48 z sizeOf25 z) pk_nil)) ?_
 refine ws_e1 6 (by kernel_rfl) ?_
 refine nxe [7] (by kernel_rfl) z z ?_
 clear hst
 intro w hst
 replace hst := hst.pull1
 obtain ⟨css698, hq699, hst⟩ := hst.own_open
 obtain ⟨t700, ht701, hm⟩ := bind_some hm
 refine wec call34 [v696, U6 a0.Epoch, I6 (8:Int)] z z ?_
 refine (ref02_Num_ref (hst.rdrow0 hq699) hst.to0 ht701).mono ?_
 rintro _ w702 ⟨v705, rfl, hst⟩
 refine ⟨_, z, ?_⟩
 replace hst := hst.of1.pull1.own_close hq699
 refine ws_next (pend' := []) hst (by kernel_rfl) pk_nil ?_
 refine ws_e1 7 (by kernel_rfl) ?_
 refine nxe [] (by kernel_rfl) z z ?_
 clear hst
 intro w hst
 refine we_run (v := v705) (w' := w) z z ?_
 refine ws_next (pend' := []) hst (by kernel_rfl) pk_nil ?_
 refine ws_nil ?_
 intro w hst
 refine tn (wp_seq ?_)
 refine wp_region_St hst 10 [0, 1, 2, 3, 4, 5, 6, 7, 8, 9] [0, 0, 2, 7, 0, 16, 48, 112, 255, 511] [9] z (by kernel_rfl) (by kernel_rfl) Try.mixed (by kernel_rfl) ?_
 refine wsr (v705) 0 z z z (by kernel_rfl) (fun w hst => z) (wsr (Pt b607 19) 1 z z z (by kernel_rfl) (fun w hst => x_field z underlying48 z sizeOf25 z) (wsr (.int .u64 a0.Shards) 2 z z z (by kernel_rfl) (fun w hst => x_load z isAgg25 (hst.bc3 z)) (wsr (Pt b607 20) 4 z z z (by kernel_rfl) (fun w hst => x_field z underlying48 z sizeOf43 z) (wsr (r0_7) 5 z z z (by kernel_rfl) (fun w hst => x_load z isAgg43 (hst.bc3 z)) (wsr (.int .i64 ((a0.Parts).length : Int)) 6 z z z (by kernel_rfl) (fun w hst => x_len z underlying43 (rd_sliceV f0_7)) (wsr (.int .u64 (u64.wrap ((a0.Parts).length : Int))) 7 z z z (by kernel_rfl) (fun w hst => by kernel_rfl) ?_))))))
 refine ws_e1 3 (by kernel_rfl) ?_
 refine nxe [8, 9] (by kernel_rfl) z z ?_
 clear hst
 intro w hst
 replace hst := hst.pull1
 obtain ⟨css707, hq708, hst⟩ := hst.own_open
 obtain ⟨t709, ht710, hm⟩ := bind_some hm
 refine wec call34 [v705, U6 a0.Shards, I6 (2:Int)] z z ?_
 refine (ref02_Num_ref (hst.rdrow0 hq708) hst.to0 ht710).mono ?_
 rintro _ w711 ⟨v714, rfl, hst⟩
 refine ⟨_, z, ?_⟩
 replace hst := hst.of1.pull1.own_close hq708
 refine ws_next (pend' := [(7, U6 (u64.wrap ((a0.Parts).length : Int))), (6, I6 ((a0.Parts).length : Int)), (5, r0_7), (4, Pt b607 20)]) hst (by kernel_rfl) (pkr z z (fun w hst => by kernel_rfl) (pkr z z (fun w hst => x_len z underlying43 (rd_sliceV f0_7)) (pkr z z (fun w hst => x_load z isAgg43 (hst.bc4 z)) (pkr z z (fun w hst => x_field z underlying48 z sizeOf43 z) pk_nil)))) ?_
 refine ws_e1 8 (by kernel_rfl) ?_
 refine nxe [9] (by kernel_rfl) z z ?_
 clear hst
 intro w hst
 replace hst := hst.pull1
 obtain ⟨css716, hq717, hst⟩ := hst.own_open
 obtain ⟨t718, ht719, hm⟩ := bind_some hm
 refine wec call34 [v714, U6 (u64.wrap ((a0.Parts).length : Int)), I6 (4:Int)] z z ?_
 refine (ref02_Num_ref (hst.rdrow0 hq717) hst.to0 ht719).mono ?_
 rintro _ w720 ⟨v723, rfl, hst⟩
 refine ⟨_, z, ?_⟩
 replace hst := hst.of1.pull1.own_close hq717
 refine ws_next (pend' := []) hst (by kernel_rfl) pk_nil ?_
 refine ws_e1 9 (by kernel_rfl) ?_
 refine nxe [] (by kernel_rfl) z z ?_
 clear hst
 intro w hst
 refine we_run (v := v723) (w' := w) z z ?_
 refine ws_next (pend' := []) hst (by kernel_rfl) pk_nil ?_
 refine ws_nil ?_
 intro w hst
 refine tn ?_
 obtain ⟨y836, hm, hx837⟩ := bind_some hm
 refine wp_cut (fun a w => ∃ (z833 : (List Int)) (v832 : Value) (σ834 : Nat → Value), (ref13_Command_j0 a0) z833 = some r ∧ a = Fr 123 (upd (upd σ834 1 (Pt b607 0)) 3 (v832)) ∧ St w0 w I [cells b607 [U1 a0.Kind, U6 a0.ID.Session, U6 a0.ID.Seq, U6 a0.Epoch, U6 a0.Index, I6 a0.E, U6 a0.Hold.ID.Session, U6 a0.Hold.ID.Seq, U6 a0.Hold.Epoch, r0_0, r0_1, r0_2, r0_3, r0_4, I6 a0.R.E, U6 a0.R.Epoch, U6 a0.R.Index, r0_5, r0_6, U6 a0.Shards, r0_7, U6 a0.Rule.ID, I6 a0.Rule.From, I6 a0.Rule.To, F6 a0.Rule.Lo, F6 a0.Rule.Hi, U6 a0.Rule.Authority, I6 a0.Rule.Quota, .bool a0.On], ownS (tyInt .u8) v832 z833] R) ?_ ?_
 {
 refine wp_seq (wrl (wv (.int .i64 (0:Int)) z z z (wl_nil (tn (wp_block ?_)))))
 replace hst := hst.sub.pull1.sub.pull1.sub.pull1.sub
 obtain ⟨n794, hm⟩ := loopO_some hm
 refine wp_loop_n (fun n a w => ∃ (z789 : (List Int)) (z792 : Int) (v790 : Value) (σ793 : Nat → Value), loopN (ref13_Command_l1 a0) n (z789, z792) = some y836 ∧ a = Fr 123 (upd (upd (upd σ793 1 (Pt b607 0)) 3 (v790)) 4 (.int .i64 z792)) ∧ St w0 w I [ownS (tyInt .u8) v790 z789, cells b607 [U1 a0.Kind, U6 a0.ID.Session, U6 a0.ID.Seq, U6 a0.Epoch, U6 a0.Index, I6 a0.E, U6 a0.Hold.ID.Session, U6 a0.Hold.ID.Seq, U6 a0.Hold.Epoch, r0_0, r0_1, r0_2, r0_3, r0_4, I6 a0.R.E, U6 a0.R.Epoch, U6 a0.R.Index, r0_5, r0_6, U6 a0.Shards, r0_7, U6 a0.Rule.ID, I6 a0.Rule.From, I6 a0.Rule.To, F6 a0.Rule.Lo, F6 a0.Rule.Hi, U6 a0.Rule.Authority, I6 a0.Rule.Quota, .bool a0.On]] R) n794 ⟨t718, (0:Int), v723, _, hm, (fu 1 (Pt b607 0) z (fu 3 v723 z (fu 4 (.int .i64 (0:Int)) z z))), hst⟩ ?_
 rintro n800 _ w795 ⟨z789, z792, v790, σ793, hm, rfl, hst⟩
 obtain ⟨n797, y798, rfl, hm, hx799⟩ := loopN_some hm
 dsimp only [ref13_Command_l1] at hm
 refine wp_seq (wp_seq (wrl (wv (.int .i64 z792) z z z (wv (Pt b607 20) z z (x_field z underlying48 z sizeOf43 z) (wv (r0_7) z z (x_load z isAgg43 (hst.bc1 z)) (wv (.int .i64 ((a0.Parts).length : Int)) z z (x_len z underlying43 (rd_sliceV f0_7)) (wv (.bool (decide (z792 < ((a0.Parts).length : Int)))) z z z (wl_nil (tn ?_)))))))))
 refine bsplit (decide (z792 < ((a0.Parts).length : Int))) (fun hc801 => ?_) (fun hc801 => ?_)
 {
 replace hm := bif_t hc801 hm
 refine wp_ift (cvb hc801) ?_
 refine wp_skip (tn (wp_seq (wp_block ?_)))
 refine wp_region_St hst 17 [0, 1, 2, 3, 4, 5, 6, 7, 8, 9, 10, 11, 12, 13, 14, 15, 16] [0, 0, 2, 0, 14, 30, 62, 126, 255, 0, 512, 0, 3584, 7680, 15872, 32767, 65535] [16] z (by kernel_rfl) (by kernel_rfl) Try.mixed (by kernel_rfl) ?_
 refine wsr (v790) 0 z z z (by kernel_rfl) (fun w hst => z) (wsr (Pt b607 20) 1 z z z (by kernel_rfl) (fun w hst => x_field z underlying48 z sizeOf43 z) (wsr (r0_7) 2 z z z (by kernel_rfl) (fun w hst => x_load z isAgg43 (hst.bc1 z)) (wsr (.int .i64 z792) 3 z z z (by kernel_rfl) (fun w hst => z) ?_)))
 obtain ⟨x802, hx803, hm⟩ := bind_some hm
 obtain ⟨h804, h805, hi806⟩ := geto_some hx803
 refine wsr (.pointer (some (eAddr r0_7 (z792.toNat * 2 + 0)))) 4 z z z (by kernel_rfl) (fun w hst => x_index z z underlying43 sizeOf110 (rd_sliceV f0_7) h804 h805) (wsr (.pointer (some (eAddr r0_7 (z792.toNat * 2 + 0)))) 5 z z z (by kernel_rfl) (fun w hst => x_field_e z underlying110 z sizeOf3 z) ?_)
 obtain ⟨cs807, hr808, hc809⟩ := Rd.getF f0_7 hi806
 obtain ⟨v810, rfl, f811, -⟩ := hr808
 refine wsr (.int .i64 x802.Shard) 6 z z z (by kernel_rfl) (fun w hst => x_load z isAgg3 ((hc809 (HL.le.refl _) hst) 0 _ z)) (wsr (.int .u64 (u64.wrap x802.Shard)) 7 z z z (by kernel_rfl) (fun w hst => by kernel_rfl) (wsr (Pt b607 20) 9 z z z (by kernel_rfl) (fun w hst => x_field z underlying48 z sizeOf43 z) (wsr (r0_7) 10 z z z (by kernel_rfl) (fun w hst => x_load z isAgg43 (hst.bc1 z)) (wsr (.int .i64 z792) 11 z z z (by kernel_rfl) (fun w hst => z) (wsr (.pointer (some (eAddr r0_7 (z792.toNat * 2 + 0)))) 12 z z z (by kernel_rfl) (fun w hst => x_index z z underlying43 sizeOf110 (rd_sliceV f0_7) h804 h805) (wsr (.pointer (some (eAddr r0_7 (z792.toNat * 2 + 1)))) 13 z z z (by kernel_rfl) (fun w hst => x_field_e z underlying110 z sizeOf42 z) (wsr (v810) 14 z z z (by kernel_rfl) (fun w hst => x_load z isAgg42 ((hc809 (HL.le.refl _) hst) 1 _ z)) ?_)))))))
 refine ws_e1 8 (by kernel_rfl) ?_
 refine nxe [15, 16] (by kernel_rfl) z z ?_
 clear hst
 intro w hst
 obtain ⟨css813, hq814, hst⟩ := hst.own_open
 obtain ⟨t815, ht816, hm⟩ := bind_some hm
 refine wec call34 [v790, U6 (u64.wrap x802.Shard), I6 (1:Int)] z z ?_
 refine (ref02_Num_ref (hst.rdrow0 hq814) hst.to0 ht816).mono ?_
 rintro _ w817 ⟨v820, rfl, hst⟩
 refine ⟨_, z, ?_⟩
 replace hst := hst.of1.pull1.own_close hq814
 refine ws_next (pend' := [(14, v810), (13, .pointer (some (eAddr r0_7 (z792.toNat * 2 + 1)))), (12, .pointer (some (eAddr r0_7 (z792.toNat * 2 + 0)))), (11, I6 z792), (10, r0_7), (9, Pt b607 20)]) hst (by kernel_rfl) (pkr z z (fun w hst => x_load z isAgg42 ((hc809 (HL.le.refl _) hst) 1 _ z)) (pkr z z (fun w hst => x_field_e z underlying110 z sizeOf42 z) (pkr z z (fun w hst => x_index z z underlying43 sizeOf110 (rd_sliceV f0_7) h804 h805) (pkr z z (fun w hst => z) (pkr z z (fun w hst => x_load z isAgg43 (hst.bc2 z)) (pkr z z (fun w hst => x_field z underlying48 z sizeOf43 z) pk_nil)))))) ?_
 refine ws_e1 15 (by kernel_rfl) ?_
 refine nxe [16] (by kernel_rfl) z z ?_
 clear hst
 intro w hst
 replace hst := hst.pull1
 obtain ⟨css822, hq823, hst⟩ := hst.own_open
 obtain ⟨t824, ht825, hm⟩ := bind_some hm
 refine wec call62 [v820, v810] z z ?_
 refine (ref13_Writes_ref (hst.rdrow0 hq823) (f811.mono (rd_weak _)) hst.to0 ht825).mono ?_
 rintro _ w826 ⟨v829, rfl, hst⟩
 refine ⟨_, z, ?_⟩
 replace hst := hst.of1.pull1.own_close hq823
 refine ws_next (pend' := []) hst (by kernel_rfl) pk_nil ?_
 refine ws_e1 16 (by kernel_rfl) ?_
 refine nxe [] (by kernel_rfl) z z ?_
 clear hst
 intro w hst
 refine we_run (v := v829) (w' := w) z z ?_
 refine ws_next (pend' := []) hst (by kernel_rfl) pk_nil ?_
 refine ws_nil ?_
 intro w hst
 refine blk_n (tn (wrl ?_))
 refine wv (.int .i64 z792) z z z (wv (.int .i64 (i64.wrap (z792 + (1:Int)))) z z z (wv (.int .i64 (i64.wrap (z792 + (1:Int)))) z z z (wl_nil (tn ?_))))
 replace hst := hst.pull3.pull2.keep2
 obtain rfl := some_inj hm
 exact ⟨_, Nat.lt_succ_self _, t824, (i64.wrap (z792 + (1:Int))), v829, _, hx799, (fu 1 (Pt b607 0) z (fu 3 v829 z (fu 4 (.int .i64 (i64.wrap (z792 + (1:Int)))) z z))), hst⟩
}
 {
 replace hm := bif_f hc801 hm
 refine wp_iff (cvb hc801) ?_
 refine wp_exit (then_x (then_x ?_))
 replace hm := inr_up hm hx799
 refine blk_x (tn ?_)
 replace hst := hst.pull1.keep2
 obtain rfl := some_inj hm
 exact ⟨z789, v790, _, hx837, (fu 1 (Pt b607 0) z (fu 3 v790 z z)), hst⟩
}
}
 {
 clear hst
 rintro _ w838 ⟨z833, v832, σ834, hm, rfl, hst⟩
 dsimp only [ref13_Command_j0] at hm
 refine wp_seq (wrl (wv (v832) z z z (wv (Pt b607 14) z z (x_field z underlying48 z sizeOf41 z) (wv (.agg #[I6 a0.R.E, U6 a0.R.Epoch, U6 a0.R.Index, r0_5, r0_6]) z z (x_loadN (cs := [I6 a0.R.E, U6 a0.R.Epoch, U6 a0.R.Index, r0_5, r0_6]) z isAgg41 sizeOf41 (hst.bcs0 14 z)) ?_))))
 replace hst := hst.pull1
 obtain ⟨css839, hq840, hst⟩ := hst.own_open
 obtain ⟨t841, ht842, hm⟩ := bind_some hm
 refine wc call37 [v832, .agg #[I6 a0.R.E, U6 a0.R.Epoch, U6 a0.R.Index, r0_5, r0_6]] z z z ?_
 refine (ref13_Reply_ref (hst.rdrow0 hq840) (f0_5.mono (rd_weak _)) (f0_6.mono (rd_weak _)) hst.to0 ht842).mono ?_
 rintro _ w843 ⟨v846, rfl, hst⟩
 refine ⟨_, z, ?_⟩
 replace hst := hst.of1.pull1.own_close hq840
 refine wv (v846) z z z (wl_nil (tn (wp_ret (blk_r (then_r ?_)))))
 obtain rfl := some_inj hm
 refine post_ret (vs := [v846]) results39 (rvs_cons (rv_tmp z) rvs_nil) ?_
 replace hst := hst.pull1
 exact ⟨v846, z, hst.keep1⟩
}
}
 {
 replace hm := bif_f hc688 hm
 refine wp_iff (cvb hc688) ?_
 refine wp_seq (wrl (wv (.bool (a0.Kind == (5:Int))) z z z (wv (.bool (a0.Kind == (5:Int))) z z z (wl_nil (tn ?_)))))
 refine bsplit (a0.Kind == (5:Int)) (fun hc848 => ?_) (fun hc848 => ?_)
 {
 replace hm := bif_t hc848 hm
 refine wp_ift (cvb hc848) ?_
 refine wp_seq (wrl (wv (v620) z z z (wv (Pt b607 1) z z (x_field z underlying48 z sizeOf32 z) (wv (.agg #[U6 a0.ID.Session, U6 a0.ID.Seq]) z z (x_loadN (cs := [U6 a0.ID.Session, U6 a0.ID.Seq]) z isAgg32 sizeOf32 (hst.bcs1 1 z)) ?_))))
 obtain ⟨css849, hq850, hst⟩ := hst.own_open
 obtain ⟨t851, ht852, hm⟩ := bind_some hm
 refine wc call40 [v620, .agg #[U6 a0.ID.Session, U6 a0.ID.Seq]] z z z ?_
 refine (ref12_ID_ref (hst.rdrow0 hq850) hst.to0 ht852).mono ?_
 rintro _ w853 ⟨v856, rfl, hst⟩
 refine ⟨_, z, ?_⟩
 replace hst := hst.of1.pull1.own_close hq850
 refine wv (v856) z z z (wl_nil (tn (wp_ret (blk_r (then_r ?_)))))
 obtain rfl := some_inj hm
 refine post_ret (vs := [v856]) results39 (rvs_cons (rv_tmp z) rvs_nil) ?_
 replace hst := hst.pull1
 exact ⟨v856, z, hst.keep1⟩
}
 {
 replace hm := bif_f hc848 hm
 refine wp_iff (cvb hc848) ?_
 refine wp_seq (wrl (wv (.bool (a0.Kind == (6:Int))) z z z (wv (.bool (a0.Kind == (6:Int))) z z z (wl_nil (tn ?_)))))
 refine bsplit (a0.Kind == (6:Int)) (fun hc858 => ?_) (fun hc858 => ?_)
 {
 replace hm := bif_t hc858 hm
 refine wp_ift (cvb hc858) ?_
 refine wp_seq ?_
 refine wp_region_St hst 8 [0, 1, 2, 3, 4, 5, 6, 7] [0, 0, 2, 7, 0, 16, 63, 127] [] z (by kernel_rfl) (by kernel_rfl) Try.mixed (by kernel_rfl) ?_
 refine wsr (v620) 0 z z z (by kernel_rfl) (fun w hst => z) (wsr (Pt b607 21) 1 z z z (by kernel_rfl) (fun w hst => x_field z underlying48 z sizeOf46 z) (wsr (.agg #[U6 a0.Rule.ID, I6 a0.Rule.From, I6 a0.Rule.To, F6 a0.Rule.Lo, F6 a0.Rule.Hi, U6 a0.Rule.Authority, I6 a0.Rule.Quota]) 2 z z z (by kernel_rfl) (fun w hst => x_loadN (cs := [U6 a0.Rule.ID, I6 a0.Rule.From, I6 a0.Rule.To, F6 a0.Rule.Lo, F6 a0.Rule.Hi, U6 a0.Rule.Authority, I6 a0.Rule.Quota]) z isAgg46 sizeOf46 (hst.bcs1 21 z)) (wsr (Pt b607 28) 4 z z z (by kernel_rfl) (fun w hst => x_field z underlying48 z sizeOf4 z) (wsr (.bool a0.On) 5 z z z (by kernel_rfl) (fun w hst => x_load z isAgg4 (hst.bc1 z)) ?_))))
 refine ws_e1 3 (by kernel_rfl) ?_
 refine nxe [6, 7] (by kernel_rfl) z z ?_
 clear hst
 intro w hst
 obtain ⟨css859, hq860, hst⟩ := hst.own_open
 obtain ⟨t861, ht862, hm⟩ := bind_some hm
 refine wec call63 [v620, .agg #[U6 a0.Rule.ID, I6 a0.Rule.From, I6 a0.Rule.To, F6 a0.Rule.Lo, F6 a0.Rule.Hi, U6 a0.Rule.Authority, I6 a0.Rule.Quota]] z z ?_
 refine (ref13_Rule_ref (hst.rdrow0 hq860) hst.to0 ht862).mono ?_
 rintro _ w863 ⟨v866, rfl, hst⟩
 refine ⟨_, z, ?_⟩
 replace hst := hst.of1.pull1.own_close hq860
 refine ws_next (pend' := [(5, .bool a0.On), (4, Pt b607 28)]) hst (by kernel_rfl) (pkr z z (fun w hst => x_load z isAgg4 (hst.bc2 z)) (pkr z z (fun w hst => x_field z underlying48 z sizeOf4 z) pk_nil)) ?_
 refine ws_e1 6 (by kernel_rfl) ?_
 refine nxe [7] (by kernel_rfl) z z ?_
 clear hst
 intro w hst
 replace hst := hst.pull1
 obtain ⟨css868, hq869, hst⟩ := hst.own_open
 obtain ⟨t870, ht871, hm⟩ := bind_some hm
 refine wec call60 [v866, .bool a0.On] z z ?_
 refine (ref02_Flag_ref (hst.rdrow0 hq869) hst.to0 ht871).mono ?_
 rintro _ w872 ⟨v875, rfl, hst⟩
 refine ⟨_, z, ?_⟩
 replace hst := hst.of1.pull1.own_close hq869
 refine ws_next (pend' := []) hst (by kernel_rfl) pk_nil ?_
 refine wsr (v875) 7 z z z (by kernel_rfl) (fun w hst => z) ?_
 refine ws_nil ?_
 intro w hst
 refine tn (wp_ret (blk_r (then_r ?_)))
 obtain rfl := some_inj hm
 refine post_ret (vs := [v875]) results39 (rvs_cons (rv_tmp z) rvs_nil) ?_
 replace hst := hst.pull1
 exact ⟨v875, z, hst.keep1⟩
}
 {
 replace hm := bif_f hc858 hm
 refine wp_iff (cvb hc858) ?_
 refine wp_seq (wrl (wv (.bool (a0.Kind == (7:Int))) z z z (wv (.bool (a0.Kind == (7:Int))) z z z (wl_nil (tn ?_)))))
 refine bsplit (a0.Kind == (7:Int)) (fun hc877 => ?_) (fun hc877 => ?_)
 {
 replace hm := bif_t hc877 hm
 refine wp_ift (cvb hc877) ?_
 refine wp_seq ?_
 refine wp_region_St hst 8 [0, 1, 2, 3, 4, 5, 6, 7] [0, 0, 2, 7, 0, 16, 63, 127] [7] z (by kernel_rfl) (by kernel_rfl) Try.mixed (by kernel_rfl) ?_
 refine wsr (v620) 0 z z z (by kernel_rfl) (fun w hst => z) (wsr (Pt b607 1) 1 z z z (by kernel_rfl) (fun w hst => x_field z underlying48 z sizeOf32 z) (wsr (.agg #[U6 a0.ID.Session, U6 a0.ID.Seq]) 2 z z z (by kernel_rfl) (fun w hst => x_loadN (cs := [U6 a0.ID.Session, U6 a0.ID.Seq]) z isAgg32 sizeOf32 (hst.bcs1 1 z)) (wsr (Pt b607 3) 4 z z z (by kernel_rfl) (fun w hst => x_field z underlying48 z sizeOf25 z) (wsr (.int .u64 a0.Epoch) 5 z z z (by kernel_rfl) (fun w hst => x_load z isAgg25 (hst.bc1 z)) ?_))))
 refine ws_e1 3 (by kernel_rfl) ?_
 refine nxe [6, 7] (by kernel_rfl) z z ?_
 clear hst
 intro w hst
 obtain ⟨css878, hq879, hst⟩ := hst.own_open
 obtain ⟨t880, ht881, hm⟩ := bind_some hm
 refine wec call40 [v620, .agg #[U6 a0.ID.Session, U6 a0.ID.Seq]] z z ?_
 refine (ref12_ID_ref (hst.rdrow0 hq879) hst.to0 ht881).mono ?_
 rintro _ w882 ⟨v885, rfl, hst⟩
 refine ⟨_, z, ?_⟩
 replace hst := hst.of1.pull1.own_close hq879
 refine ws_next (pend' := [(5, U6 a0.Epoch), (4, Pt b607 3)]) hst (by kernel_rfl) (pkr z z (fun w hst => x_load z isAgg25 (hst.bc2 z)) (pkr z z (fun w hst => x_field z underlying48 z sizeOf25 z) pk_nil)) ?_
 refine ws_e1 6 (by kernel_rfl) ?_
 refine nxe [7] (by kernel_rfl) z z ?_
 clear hst
 intro w hst
 replace hst := hst.pull1
 obtain ⟨css887, hq888, hst⟩ := hst.own_open
 obtain ⟨t889, ht890, hm⟩ := bind_some hm
 refine wec call34 [v885, U6 a0.Epoch, I6 (8:Int)] z z ?_
 refine (ref02_Num_ref (hst.rdrow0 hq888) hst.to0 ht890).mono ?_
 rintro _ w891 ⟨v894, rfl, hst⟩
 refine ⟨_, z, ?_⟩
 replace hst := hst.of1.pull1.own_close hq888
 refine ws_next (pend' := []) hst (by kernel_rfl) pk_nil ?_
 refine ws_e1 7 (by kernel_rfl) ?_
 refine nxe [] (by kernel_rfl) z z ?_
 clear hst
 intro w hst
 refine we_run (v := v894) (w' := w) z z ?_
 refine ws_next (pend' := []) hst (by kernel_rfl) pk_nil ?_
 refine ws_nil ?_
 intro w hst
 refine tn (wp_seq ?_)
 refine wp_region_St hst 11 [0, 1, 2, 3, 4, 5, 6, 7, 8, 9, 10] [0, 0, 2, 7, 0, 16, 63, 0, 128, 511, 1023] [] z (by kernel_rfl) (by kernel_rfl) Try.mixed (by kernel_rfl) ?_
 refine wsr (v894) 0 z z z (by kernel_rfl) (fun w hst => z) (wsr (Pt b607 21) 1 z z z (by kernel_rfl) (fun w hst => x_field z underlying48 z sizeOf46 z) (wsr (.agg #[U6 a0.Rule.ID, I6 a0.Rule.From, I6 a0.Rule.To, F6 a0.Rule.Lo, F6 a0.Rule.Hi, U6 a0.Rule.Authority, I6 a0.Rule.Quota]) 2 z z z (by kernel_rfl) (fun w hst => x_loadN (cs := [U6 a0.Rule.ID, I6 a0.Rule.From, I6 a0.Rule.To, F6 a0.Rule.Lo, F6 a0.Rule.Hi, U6 a0.Rule.Authority, I6 a0.Rule.Quota]) z isAgg46 sizeOf46 (hst.bcs3 21 z)) (wsr (Pt b607 13) 4 z z z (by kernel_rfl) (fun w hst => x_field z underlying48 z sizeOf42 z) (wsr (r0_4) 5 z z z (by kernel_rfl) (fun w hst => x_load z isAgg42 (hst.bc3 z)) (wsr (Pt b607 14) 7 z z z (by kernel_rfl) (fun w hst => x_field z underlying48 z sizeOf41 z) (wsr (.agg #[I6 a0.R.E, U6 a0.R.Epoch, U6 a0.R.Index, r0_5, r0_6]) 8 z z z (by kernel_rfl) (fun w hst => x_loadN (cs := [I6 a0.R.E, U6 a0.R.Epoch, U6 a0.R.Index, r0_5, r0_6]) z isAgg41 sizeOf41 (hst.bcs3 14 z)) ?_))))))
 refine ws_e1 3 (by kernel_rfl) ?_
 refine nxe [6, 9, 10] (by kernel_rfl) z z ?_
 clear hst
 intro w hst
 replace hst := hst.pull1
 obtain ⟨css896, hq897, hst⟩ := hst.own_open
 obtain ⟨t898, ht899, hm⟩ := bind_some hm
 refine wec call63 [v894, .agg #[U6 a0.Rule.ID, I6 a0.Rule.From, I6 a0.Rule.To, F6 a0.Rule.Lo, F6 a0.Rule.Hi, U6 a0.Rule.Authority, I6 a0.Rule.Quota]] z z ?_
 refine (ref13_Rule_ref (hst.rdrow0 hq897) hst.to0 ht899).mono ?_
 rintro _ w900 ⟨v903, rfl, hst⟩
 refine ⟨_, z, ?_⟩
 replace hst := hst.of1.pull1.own_close hq897
 refine ws_next (pend' := [(8, .agg #[I6 a0.R.E, U6 a0.R.Epoch, U6 a0.R.Index, r0_5, r0_6]), (7, Pt b607 14), (5, r0_4), (4, Pt b607 13)]) hst (by kernel_rfl) (pkr z z (fun w hst => x_loadN (cs := [I6 a0.R.E, U6 a0.R.Epoch, U6 a0.R.Index, r0_5, r0_6]) z isAgg41 sizeOf41 (hst.bcs4 14 z)) (pkr z z (fun w hst => x_field z underlying48 z sizeOf41 z) (pkr z z (fun w hst => x_load z isAgg42 (hst.bc4 z)) (pkr z z (fun w hst => x_field z underlying48 z sizeOf42 z) pk_nil)))) ?_
 refine ws_e1 6 (by kernel_rfl) ?_
 refine nxe [9, 10] (by kernel_rfl) z z ?_
 clear hst
 intro w hst
 replace hst := hst.pull1
 obtain ⟨css905, hq906, hst⟩ := hst.own_open
 obtain ⟨t907, ht908, hm⟩ := bind_some hm
 refine wec call62 [v903, r0_4] z z ?_
 refine (ref13_Writes_ref (hst.rdrow0 hq906) (f0_4.mono (rd_weak _)) hst.to0 ht908).mono ?_
 rintro _ w909 ⟨v912, rfl, hst⟩
 refine ⟨_, z, ?_⟩
 replace hst := hst.of1.pull1.own_close hq906
 refine ws_next (pend' := [(8, .agg #[I6 a0.R.E, U6 a0.R.Epoch, U6 a0.R.Index, r0_5, r0_6]), (7, Pt b607 14)]) hst (by kernel_rfl) (pkr z z (fun w hst => x_loadN (cs := [I6 a0.R.E, U6 a0.R.Epoch, U6 a0.R.Index, r0_5, r0_6]) z isAgg41 sizeOf41 (hst.bcs5 14 z)) (pkr z z (fun w hst => x_field z underlying48 z sizeOf41 z) pk_nil)) ?_
 refine ws_e1 9 (by kernel_rfl) ?_
 refine nxe [10] (by kernel_rfl) z z ?_
 clear hst
 intro w hst
 replace hst := hst.pull1
 obtain ⟨css914, hq915, hst⟩ := hst.own_open
 obtain ⟨t916, ht917, hm⟩ := bind_some hm
 refine wec call37 [v912, .agg #[I6 a0.R.E, U6 a0.R.Epoch, U6 a0.R.Index, r0_5, r0_6]] z z ?_
 refine (ref13_Reply_ref (hst.rdrow0 hq915) (f0_5.mono (rd_weak _)) (f0_6.mono (rd_weak _)) hst.to0 ht917).mono ?_
 rintro _ w918 ⟨v921, rfl, hst⟩
 refine ⟨_, z, ?_⟩
 replace hst := hst.of1.pull1.own_close hq915
 refine ws_next (pend' := []) hst (by kernel_rfl) pk_nil ?_
 refine wsr (v921) 10 z z z (by kernel_rfl) (fun w hst => z) ?_
 refine ws_nil ?_
 intro w hst
 refine tn (wp_ret (blk_r (then_r ?_)))
 obtain rfl := some_inj hm
 refine post_ret (vs := [v921]) results39 (rvs_cons (rv_tmp z) rvs_nil) ?_
 replace hst := hst.pull1
 exact ⟨v921, z, hst.keep1⟩
}
 {
 replace hm := bif_f hc877 hm
 refine wp_iff (cvb hc877) ?_
 refine wp_skip (blk_n (tn (wp_seq (wrl ?_))))
 refine wv (v620) z z z (wv (v620) z z z (wl_nil (tn (wp_ret ?_))))
 obtain rfl := some_inj hm
 refine post_ret (vs := [v620]) results39 (rvs_cons (rv_tmp z) rvs_nil) ?_
 exact ⟨v620, z, hst.keep1⟩
}
}
}
}
}
}
}
}

theorem ref13_Mail_ref {w0 w : World} {I : HL} {R : SP} {a0 : api_Mail} {r0_0 : Value} {r0_1 : Value} {r0_2 : Value} {r0_3 : Value} {r0_4 : Value} {r0_5 : Value} {r0_6 : Value} {r0_7 : Value} {r0_8 : Value} {r0_9 : Value} {r0_10 : Value} {r0_11 : Value} {r0_12 : Value} {r0_13 : Value} {r0_14 : Value} {r0_15 : Value} (f0_0 : Rd ty_api_Entry R I r0_0 a0.M.Entries) (f0_1 : Rd (tyInt .u8) R I r0_1 a0.M.S.Data) (f0_2 : Rd tyF64 R I r0_2 a0.H.Gets) (f0_3 : Rd tyF2 R I r0_3 a0.H.Scans) (f0_4 : Rd tyF64 R I r0_4 a0.H.Puts) (f0_5 : Rd (tyInt .u8) R I r0_5 a0.H.Data) (f0_6 : Rd ty_api_Got R I r0_6 a0.R.Gots) (f0_7 : Rd (tySl ty_api_Pair) R I r0_7 a0.R.Scans) (f0_8 : Rd tyF64 R I r0_8 a0.C.Hold.Gets) (f0_9 : Rd tyF2 R I r0_9 a0.C.Hold.Scans) (f0_10 : Rd tyF64 R I r0_10 a0.C.Hold.Puts) (f0_11 : Rd (tyInt .u8) R I r0_11 a0.C.Hold.Data) (f0_12 : Rd ty_api_Write R I r0_12 a0.C.Writes) (f0_13 : Rd ty_api_Got R I r0_13 a0.C.R.Gots) (f0_14 : Rd (tySl ty_api_Pair) R I r0_14 a0.C.R.Scans) (f0_15 : Rd ty_api_Part R I r0_15 a0.C.Parts) (hst : St w0 w I [] R) {r : ((List Int))} (hm : ref13_Mail a0 = some r) :
  Calls prog 10 #[.agg #[U1 a0.Kind, U1 a0.M.Kind, I6 a0.M.From, I6 a0.M.To, U6 a0.M.Term, U6 a0.M.Index, U6 a0.M.LogTerm, U6 a0.M.Commit, .bool a0.M.OK, r0_0, U6 a0.M.S.Index, U6 a0.M.S.Term, U6 a0.M.S.Voters, r0_1, U6 a0.H.ID.Session, U6 a0.H.ID.Seq, U6 a0.H.Epoch, r0_2, r0_3, r0_4, r0_5, U6 a0.ID.Session, U6 a0.ID.Seq, I6 a0.R.E, U6 a0.R.Epoch, U6 a0.R.Index, r0_6, r0_7, U1 a0.C.Kind, U6 a0.C.ID.Session, U6 a0.C.ID.Seq, U6 a0.C.Epoch, U6 a0.C.Index, I6 a0.C.E, U6 a0.C.Hold.ID.Session, U6 a0.C.Hold.ID.Seq, U6 a0.C.Hold.Epoch, r0_8, r0_9, r0_10, r0_11, r0_12, I6 a0.C.R.E, U6 a0.C.R.Epoch, U6 a0.C.R.Index, r0_13, r0_14, U6 a0.C.Shards, r0_15, U6 a0.C.Rule.ID, I6 a0.C.Rule.From, I6 a0.C.Rule.To, F6 a0.C.Rule.Lo, F6 a0.C.Rule.Hi, U6 a0.C.Rule.Authority, I6 a0.C.Rule.Quota, .bool a0.C.On]] w fun e w' => ∃ (q0_0 : Value), e = .returned (q0_0) ∧ St w0 w' I [ownS (tyInt .u8) q0_0 r] R := by {
 unfold ref13_Mail at hm
 refine calls_start (args := [.agg #[U1 a0.Kind, U1 a0.M.Kind, I6 a0.M.From, I6 a0.M.To, U6 a0.M.Term, U6 a0.M.Index, U6 a0.M.LogTerm, U6 a0.M.Commit, .bool a0.M.OK, r0_0, U6 a0.M.S.Index, U6 a0.M.S.Term, U6 a0.M.S.Voters, r0_1, U6 a0.H.ID.Session, U6 a0.H.ID.Seq, U6 a0.H.Epoch, r0_2, r0_3, r0_4, r0_5, U6 a0.ID.Session, U6 a0.ID.Seq, I6 a0.R.E, U6 a0.R.Epoch, U6 a0.R.Index, r0_6, r0_7, U1 a0.C.Kind, U6 a0.C.ID.Session, U6 a0.C.ID.Seq, U6 a0.C.Epoch, U6 a0.C.Index, I6 a0.C.E, U6 a0.C.Hold.ID.Session, U6 a0.C.Hold.ID.Seq, U6 a0.C.Hold.Epoch, r0_8, r0_9, r0_10, r0_11, r0_12, I6 a0.C.R.E, U6 a0.C.R.Epoch, U6 a0.C.R.Index, r0_13, r0_14, U6 a0.C.Shards, r0_15, U6 a0.C.Rule.ID, I6 a0.C.Rule.From, I6 a0.C.Rule.To, F6 a0.C.Rule.Lo, F6 a0.C.Rule.Hi, U6 a0.C.Rule.Authority, I6 a0.C.Rule.Quota, .bool a0.C.On]]) func10 z ntmps10 (Nat.le_of_ble_eq_true z) ?_
 refine wp_seq (wrl ?_)
 obtain ⟨b319, w320, ew321, eb322, hst⟩ := hst.box [U1 a0.Kind, U1 a0.M.Kind, I6 a0.M.From, I6 a0.M.To, U6 a0.M.Term, U6 a0.M.Index, U6 a0.M.LogTerm, U6 a0.M.Commit, .bool a0.M.OK, r0_0, U6 a0.M.S.Index, U6 a0.M.S.Term, U6 a0.M.S.Voters, r0_1, U6 a0.H.ID.Session, U6 a0.H.ID.Seq, U6 a0.H.Epoch, r0_2, r0_3, r0_4, r0_5, U6 a0.ID.Session, U6 a0.ID.Seq, I6 a0.R.E, U6 a0.R.Epoch, U6 a0.R.Index, r0_6, r0_7, U1 a0.C.Kind, U6 a0.C.ID.Session, U6 a0.C.ID.Seq, U6 a0.C.Epoch, U6 a0.C.Index, I6 a0.C.E, U6 a0.C.Hold.ID.Session, U6 a0.C.Hold.ID.Seq, U6 a0.C.Hold.Epoch, r0_8, r0_9, r0_10, r0_11, r0_12, I6 a0.C.R.E, U6 a0.C.R.Epoch, U6 a0.C.R.Index, r0_13, r0_14, U6 a0.C.Shards, r0_15, U6 a0.C.Rule.ID, I6 a0.C.Rule.From, I6 a0.C.Rule.To, F6 a0.C.Rule.Lo, F6 a0.C.Rule.Hi, U6 a0.C.Rule.Authority, I6 a0.C.Rule.Quota, .bool a0.C.On] 50
 refine wl_run (v := Pt b319 0) (w' := w320) z z (x_al (by kernel_rfl) ew321 eb322) ?_
 refine wv ((.slice none 0 0)) z z z (wl_nil (tn (wp_seq (wrl (wv (Pt b319 0) z z (x_field z underlying50 z sizeOf5 z) (wv (.int .u8 a0.Kind) z z (x_load z isAgg5 (hst.bc0 z)) (wv (.int .u64 (u64.wrap a0.Kind)) z z (by kernel_rfl) ?_)))))))
 have f326 : Ro (tyInt .u8) I (.slice none 0 0) [] := ro_nil
 obtain ⟨t327, ht328, hm⟩ := bind_some hm
 refine wc call34 [Zs, U6 (u64.wrap a0.Kind), I6 (1:Int)] z z z ?_
 refine (ref02_Num_ref (f326.mono ro_rd) hst.to0 ht328).mono ?_
 rintro _ w329 ⟨v332, rfl, hst⟩
 refine ⟨_, z, ?_⟩
 replace hst := hst.of1
 refine wv (v332) z z z (wl_nil (tn (wp_seq (wp_seq (wrl (wv (Pt b319 0) z z (x_field z underlying50 z sizeOf5 z) (wv (.int .u8 a0.Kind) z z (x_load z isAgg5 (hst.bc1 z)) (wl_nil (tn (wp_block (wp_seq (wrl (wv (.bool (a0.Kind == (1:Int))) z z z (wv (.bool (a0.Kind == (1:Int))) z z z (wl_nil (tn ?_))))))))))))))))
 refine bsplit (a0.Kind == (1:Int)) (fun hc334 => ?_) (fun hc334 => ?_)
 {
 replace hm := bif_t hc334 hm
 refine wp_ift (cvb hc334) ?_
 refine wp_seq (wrl (wv (v332) z z z (wv (Pt b319 1) z z (x_field z underlying50 z sizeOf30 z) (wv (.agg #[U1 a0.M.Kind, I6 a0.M.From, I6 a0.M.To, U6 a0.M.Term, U6 a0.M.Index, U6 a0.M.LogTerm, U6 a0.M.Commit, .bool a0.M.OK, r0_0, U6 a0.M.S.Index, U6 a0.M.S.Term, U6 a0.M.S.Voters, r0_1]) z z (x_loadN (cs := [U1 a0.M.Kind, I6 a0.M.From, I6 a0.M.To, U6 a0.M.Term, U6 a0.M.Index, U6 a0.M.LogTerm, U6 a0.M.Commit, .bool a0.M.OK, r0_0, U6 a0.M.S.Index, U6 a0.M.S.Term, U6 a0.M.S.Voters, r0_1]) z isAgg30 sizeOf30 (hst.bcs1 1 z)) ?_))))
 obtain ⟨css335, hq336, hst⟩ := hst.own_open
 obtain ⟨t337, ht338, hm⟩ := bind_some hm
 refine wc call35 [v332, .agg #[U1 a0.M.Kind, I6 a0.M.From, I6 a0.M.To, U6 a0.M.Term, U6 a0.M.Index, U6 a0.M.LogTerm, U6 a0.M.Commit, .bool a0.M.OK, r0_0, U6 a0.M.S.Index, U6 a0.M.S.Term, U6 a0.M.S.Voters, r0_1]] z z z ?_
 refine (ref13_Message_ref (hst.rdrow0 hq336) (f0_0.mono (rd_weak _)) (f0_1.mono (rd_weak _)) hst.to0 ht338).mono ?_
 rintro _ w339 ⟨v342, rfl, hst⟩
 refine ⟨_, z, ?_⟩
 replace hst := hst.of1.pull1.own_close hq336
 refine wv (v342) z z z (wl_nil (tn (wp_ret (blk_r (then_r ?_)))))
 obtain rfl := some_inj hm
 refine post_ret (vs := [v342]) results10 (rvs_cons (rv_tmp z) rvs_nil) ?_
 replace hst := hst.pull1
 exact ⟨v342, z, hst.keep1⟩
}
 {
 replace hm := bif_f hc334 hm
 refine wp_iff (cvb hc334) ?_
 obtain ⟨y348, hm, hx349⟩ := bind_some hm
 refine wp_cut (fun a w => ∃ (z345 : Bool) (σ346 : Nat → Value), (ref13_Mail_j0 t327 a0) z345 = some r ∧ a = Fr 46 (upd (upd (upd (upd σ346 1 (Pt b319 0)) 3 (v332)) 9 (.int .u8 a0.Kind)) 16 (.bool z345)) ∧ St w0 w I [cells b319 [U1 a0.Kind, U1 a0.M.Kind, I6 a0.M.From, I6 a0.M.To, U6 a0.M.Term, U6 a0.M.Index, U6 a0.M.LogTerm, U6 a0.M.Commit, .bool a0.M.OK, r0_0, U6 a0.M.S.Index, U6 a0.M.S.Term, U6 a0.M.S.Voters, r0_1, U6 a0.H.ID.Session, U6 a0.H.ID.Seq, U6 a0.H.Epoch, r0_2, r0_3, r0_4, r0_5, U6 a0.ID.Session, U6 a0.ID.Seq, I6 a0.R.E, U6 a0.R.Epoch, U6 a0.R.Index, r0_6, r0_7, U1 a0.C.Kind, U6 a0.C.ID.Session, U6 a0.C.ID.Seq, U6 a0.C.Epoch, U6 a0.C.Index, I6 a0.C.E, U6 a0.C.Hold.ID.Session, U6 a0.C.Hold.ID.Seq, U6 a0.C.Hold.Epoch, r0_8, r0_9, r0_10, r0_11, r0_12, I6 a0.C.R.E, U6 a0.C.R.Epoch, U6 a0.C.R.Index, r0_13, r0_14, U6 a0.C.Shards, r0_15, U6 a0.C.Rule.ID, I6 a0.C.Rule.From, I6 a0.C.Rule.To, F6 a0.C.Rule.Lo, F6 a0.C.Rule.Hi, U6 a0.C.Rule.Authority, I6 a0.C.Rule.Quota, .bool a0.C.On], ownS (tyInt .u8) v332 t327] R) ?_ ?_
 {
 refine wp_seq (wrl (wv (.bool (a0.Kind == (2:Int))) z z z (wv (.bool (a0.Kind == (2:Int))) z z z (wl_nil (tn ?_)))))
 refine bsplit (a0.Kind == (2:Int)) (fun hc344 => ?_) (fun hc344 => ?_)
 {
 replace hm := bif_t hc344 hm
 refine wp_ift (cvb hc344) ?_
 refine wp_skip (tn ?_)
 replace hst := hst.pull1.keep2
 obtain rfl := some_inj hm
 exact ⟨(a0.Kind == (2:Int)), _, hx349, (fu 1 (Pt b319 0) z (fu 3 v332 z (fu 9 (.int .u8 a0.Kind) z (fu 16 (.bool (a0.Kind == (2:Int))) z z)))), hst⟩
}
 {
 replace hm := bif_f hc344 hm
 refine wp_iff (cvb hc344) ?_
 refine wrl (wv (.bool (a0.Kind == (6:Int))) z z z (wv (.bool (a0.Kind == (6:Int))) z z z (wl_nil (tn ?_))))
 replace hst := hst.pull1.keep2
 obtain rfl := some_inj hm
 exact ⟨(a0.Kind == (6:Int)), _, hx349, (fu 1 (Pt b319 0) z (fu 3 v332 z (fu 9 (.int .u8 a0.Kind) z (fu 16 (.bool (a0.Kind == (6:Int))) z z)))), hst⟩
}
}
 {
 clear hst
 rintro _ w350 ⟨z345, σ346, hm, rfl, hst⟩
 dsimp only [ref13_Mail_j0] at hm
 refine bsplit z345 (fun hc351 => ?_) (fun hc351 => ?_)
 {
 replace hm := bif_t hc351 hm
 refine wp_ift (cvb hc351) ?_
 refine wp_seq (wrl (wv (v332) z z z (wv (Pt b319 14) z z (x_field z underlying50 z sizeOf36 z) (wv (.agg #[U6 a0.H.ID.Session, U6 a0.H.ID.Seq, U6 a0.H.Epoch, r0_2, r0_3, r0_4, r0_5]) z z (x_loadN (cs := [U6 a0.H.ID.Session, U6 a0.H.ID.Seq, U6 a0.H.Epoch, r0_2, r0_3, r0_4, r0_5]) z isAgg36 sizeOf36 (hst.bcs0 14 z)) ?_))))
 replace hst := hst.pull1
 obtain ⟨css352, hq353, hst⟩ := hst.own_open
 obtain ⟨t354, ht355, hm⟩ := bind_some hm
 refine wc call36 [v332, .agg #[U6 a0.H.ID.Session, U6 a0.H.ID.Seq, U6 a0.H.Epoch, r0_2, r0_3, r0_4, r0_5]] z z z ?_
 refine (ref12_Hold_ref (hst.rdrow0 hq353) (f0_2.mono (rd_weak _)) (f0_3.mono (rd_weak _)) (f0_4.mono (rd_weak _)) (f0_5.mono (rd_weak _)) hst.to0 ht355).mono ?_
 rintro _ w356 ⟨v359, rfl, hst⟩
 refine ⟨_, z, ?_⟩
 replace hst := hst.of1.pull1.own_close hq353
 refine wv (v359) z z z (wl_nil (tn (wp_ret (blk_r (then_r ?_)))))
 obtain rfl := some_inj hm
 refine post_ret (vs := [v359]) results10 (rvs_cons (rv_tmp z) rvs_nil) ?_
 replace hst := hst.pull1
 exact ⟨v359, z, hst.keep1⟩
}
 {
 replace hm := bif_f hc351 hm
 refine wp_iff (cvb hc351) ?_
 refine wp_seq (wrl (wv (.bool (a0.Kind == (3:Int))) z z z (wv (.bool (a0.Kind == (3:Int))) z z z (wl_nil (tn ?_)))))
 refine bsplit (a0.Kind == (3:Int)) (fun hc361 => ?_) (fun hc361 => ?_)
 {
 replace hm := bif_t hc361 hm
 refine wp_ift (cvb hc361) ?_
 refine wp_seq ?_
 refine wp_region_St hst 8 [0, 1, 2, 3, 4, 5, 6, 7] [0, 0, 2, 7, 0, 16, 63, 127] [] z (by kernel_rfl) (by kernel_rfl) Try.mixed (by kernel_rfl) ?_
 refine wsr (v332) 0 z z z (by kernel_rfl) (fun w hst => z) (wsr (Pt b319 14) 1 z z z (by kernel_rfl) (fun w hst => x_field z underlying50 z sizeOf36 z) (wsr (.agg #[U6 a0.H.ID.Session, U6 a0.H.ID.Seq, U6 a0.H.Epoch, r0_2, r0_3, r0_4, r0_5]) 2 z z z (by kernel_rfl) (fun w hst => x_loadN (cs := [U6 a0.H.ID.Session, U6 a0.H.ID.Seq, U6 a0.H.Epoch, r0_2, r0_3, r0_4, r0_5]) z isAgg36 sizeOf36 (hst.bcs0 14 z)) (wsr (Pt b319 23) 4 z z z (by kernel_rfl) (fun w hst => x_field z underlying50 z sizeOf41 z) (wsr (.agg #[I6 a0.R.E, U6 a0.R.Epoch, U6 a0.R.Index, r0_6, r0_7]) 5 z z z (by kernel_rfl) (fun w hst => x_loadN (cs := [I6 a0.R.E, U6 a0.R.Epoch, U6 a0.R.Index, r0_6, r0_7]) z isAgg41 sizeOf41 (hst.bcs0 23 z)) ?_))))
 refine ws_e1 3 (by kernel_rfl) ?_
 refine nxe [6, 7] (by kernel_rfl) z z ?_
 clear hst
 intro w hst
 replace hst := hst.pull1
 obtain ⟨css362, hq363, hst⟩ := hst.own_open
 obtain ⟨t364, ht365, hm⟩ := bind_some hm
 refine wec call36 [v332, .agg #[U6 a0.H.ID.Session, U6 a0.H.ID.Seq, U6 a0.H.Epoch, r0_2, r0_3, r0_4, r0_5]] z z ?_
 refine (ref12_Hold_ref (hst.rdrow0 hq363) (f0_2.mono (rd_weak _)) (f0_3.mono (rd_weak _)) (f0_4.mono (rd_weak _)) (f0_5.mono (rd_weak _)) hst.to0 ht365).mono ?_
 rintro _ w366 ⟨v369, rfl, hst⟩
 refine ⟨_, z, ?_⟩
 replace hst := hst.of1.pull1.own_close hq363
 refine ws_next (pend' := [(5, .agg #[I6 a0.R.E, U6 a0.R.Epoch, U6 a0.R.Index, r0_6, r0_7]), (4, Pt b319 23)]) hst (by kernel_rfl) (pkr z z (fun w hst => x_loadN (cs := [I6 a0.R.E, U6 a0.R.Epoch, U6 a0.R.Index, r0_6, r0_7]) z isAgg41 sizeOf41 (hst.bcs2 23 z)) (pkr z z (fun w hst => x_field z underlying50 z sizeOf41 z) pk_nil)) ?_
 refine ws_e1 6 (by kernel_rfl) ?_
 refine nxe [7] (by kernel_rfl) z z ?_
 clear hst
 intro w hst
 replace hst := hst.pull1
 obtain ⟨css371, hq372, hst⟩ := hst.own_open
 obtain ⟨t373, ht374, hm⟩ := bind_some hm
 refine wec call37 [v369, .agg #[I6 a0.R.E, U6 a0.R.Epoch, U6 a0.R.Index, r0_6, r0_7]] z z ?_
 refine (ref13_Reply_ref (hst.rdrow0 hq372) (f0_6.mono (rd_weak _)) (f0_7.mono (rd_weak _)) hst.to0 ht374).mono ?_
 rintro _ w375 ⟨v378, rfl, hst⟩
 refine ⟨_, z, ?_⟩
 replace hst := hst.of1.pull1.own_close hq372
 refine ws_next (pend' := []) hst (by kernel_rfl) pk_nil ?_
 refine wsr (v378) 7 z z z (by kernel_rfl) (fun w hst => z) ?_
 refine ws_nil ?_
 intro w hst
 refine tn (wp_ret (blk_r (then_r ?_)))
 obtain rfl := some_inj hm
 refine post_ret (vs := [v378]) results10 (rvs_cons (rv_tmp z) rvs_nil) ?_
 replace hst := hst.pull1
 exact ⟨v378, z, hst.keep1⟩
}
 {
 replace hm := bif_f hc361 hm
 refine wp_iff (cvb hc361) ?_
 refine wp_seq (wrl (wv (.bool (a0.Kind == (4:Int))) z z z (wv (.bool (a0.Kind == (4:Int))) z z z (wl_nil (tn ?_)))))
 refine bsplit (a0.Kind == (4:Int)) (fun hc380 => ?_) (fun hc380 => ?_)
 {
 replace hm := bif_t hc380 hm
 refine wp_ift (cvb hc380) ?_
 refine wp_seq (wrl (wv (v332) z z z (wv (Pt b319 28) z z (x_field z underlying50 z sizeOf48 z) (wv (.agg #[U1 a0.C.Kind, U6 a0.C.ID.Session, U6 a0.C.ID.Seq, U6 a0.C.Epoch, U6 a0.C.Index, I6 a0.C.E, U6 a0.C.Hold.ID.Session, U6 a0.C.Hold.ID.Seq, U6 a0.C.Hold.Epoch, r0_8, r0_9, r0_10, r0_11, r0_12, I6 a0.C.R.E, U6 a0.C.R.Epoch, U6 a0.C.R.Index, r0_13, r0_14, U6 a0.C.Shards, r0_15, U6 a0.C.Rule.ID, I6 a0.C.Rule.From, I6 a0.C.Rule.To, F6 a0.C.Rule.Lo, F6 a0.C.Rule.Hi, U6 a0.C.Rule.Authority, I6 a0.C.Rule.Quota, .bool a0.C.On]) z z (x_loadN (cs := [U1 a0.C.Kind, U6 a0.C.ID.Session, U6 a0.C.ID.Seq, U6 a0.C.Epoch, U6 a0.C.Index, I6 a0.C.E, U6 a0.C.Hold.ID.Session, U6 a0.C.Hold.ID.Seq, U6 a0.C.Hold.Epoch, r0_8, r0_9, r0_10, r0_11, r0_12, I6 a0.C.R.E, U6 a0.C.R.Epoch, U6 a0.C.R.Index, r0_13, r0_14, U6 a0.C.Shards, r0_15, U6 a0.C.Rule.ID, I6 a0.C.Rule.From, I6 a0.C.Rule.To, F6 a0.C.Rule.Lo, F6 a0.C.Rule.Hi, U6 a0.C.Rule.Authority, I6 a0.C.Rule.Quota, .bool a0.C.On]) z isAgg48 sizeOf48 (hst.bcs0 28 z)) ?_))))
 obtain ⟨t381, ht382, hm⟩ := bind_some hm
 refine wc call39 [.agg #[U1 a0.C.Kind, U6 a0.C.ID.Session, U6 a0.C.ID.Seq, U6 a0.C.Epoch, U6 a0.C.Index, I6 a0.C.E, U6 a0.C.Hold.ID.Session, U6 a0.C.Hold.ID.Seq, U6 a0.C.Hold.Epoch, r0_8, r0_9, r0_10, r0_11, r0_12, I6 a0.C.R.E, U6 a0.C.R.Epoch, U6 a0.C.R.Index, r0_13, r0_14, U6 a0.C.Shards, r0_15, U6 a0.C.Rule.ID, I6 a0.C.Rule.From, I6 a0.C.Rule.To, F6 a0.C.Rule.Lo, F6 a0.C.Rule.Hi, U6 a0.C.Rule.Authority, I6 a0.C.Rule.Quota, .bool a0.C.On]] z z z ?_
 refine (ref13_Command_ref (f0_8.mono (rd_weak _)) (f0_9.mono (rd_weak _)) (f0_10.mono (rd_weak _)) (f0_11.mono (rd_weak _)) (f0_12.mono (rd_weak _)) (f0_13.mono (rd_weak _)) (f0_14.mono (rd_weak _)) (f0_15.mono (rd_weak _)) hst.to0 ht382).mono ?_
 rintro _ w383 ⟨v386, rfl, hst⟩
 refine ⟨_, z, ?_⟩
 replace hst := hst.of1.pull2
 obtain ⟨css388, hq389, hst⟩ := hst.own_open
 replace hst := hst.pull1
 obtain ⟨css390, hq391, hst⟩ := hst.own_open
 obtain ⟨t392, ht393, hm⟩ := bind_some hm
 refine wc call38 [v332, v386] z z z ?_
 refine (ref02_Bytes_ref (hst.rdrow1 hq389) (hst.rdrow0 hq391) hst.to0 ht393).mono ?_
 rintro _ w394 ⟨v397, rfl, hst⟩
 refine ⟨_, z, ?_⟩
 replace hst := hst.of1.pull2.own_close hq389
 replace hst := hst.pull2.own_close hq391
 refine wv (v397) z z z (wl_nil (tn (wp_ret (blk_r (then_r ?_)))))
 obtain rfl := some_inj hm
 refine post_ret (vs := [v397]) results10 (rvs_cons (rv_tmp z) rvs_nil) ?_
 replace hst := hst.pull2
 exact ⟨v397, z, hst.keep1⟩
}
 {
 replace hm := bif_f hc380 hm
 refine wp_iff (cvb hc380) ?_
 refine wp_seq (wrl (wv (.bool (a0.Kind == (5:Int))) z z z (wv (.bool (a0.Kind == (5:Int))) z z z (wl_nil (tn ?_)))))
 refine bsplit (a0.Kind == (5:Int)) (fun hc399 => ?_) (fun hc399 => ?_)
 {
 replace hm := bif_t hc399 hm
 refine wp_ift (cvb hc399) ?_
 refine wp_seq (wrl (wv (v332) z z z (wv (Pt b319 21) z z (x_field z underlying50 z sizeOf32 z) (wv (.agg #[U6 a0.ID.Session, U6 a0.ID.Seq]) z z (x_loadN (cs := [U6 a0.ID.Session, U6 a0.ID.Seq]) z isAgg32 sizeOf32 (hst.bcs0 21 z)) ?_))))
 replace hst := hst.pull1
 obtain ⟨css400, hq401, hst⟩ := hst.own_open
 obtain ⟨t402, ht403, hm⟩ := bind_some hm
 refine wc call40 [v332, .agg #[U6 a0.ID.Session, U6 a0.ID.Seq]] z z z ?_
 refine (ref12_ID_ref (hst.rdrow0 hq401) hst.to0 ht403).mono ?_
 rintro _ w404 ⟨v407, rfl, hst⟩
 refine ⟨_, z, ?_⟩
 replace hst := hst.of1.pull1.own_close hq401
 refine wv (v407) z z z (wl_nil (tn (wp_ret (blk_r (then_r ?_)))))
 obtain rfl := some_inj hm
 refine post_ret (vs := [v407]) results10 (rvs_cons (rv_tmp z) rvs_nil) ?_
 replace hst := hst.pull1
 exact ⟨v407, z, hst.keep1⟩
}
 {
 replace hm := bif_f hc399 hm
 refine wp_iff (cvb hc399) ?_
 refine wp_skip (blk_n (tn (wp_seq (wrl ?_))))
 refine wv (v332) z z z (wv (v332) z z z (wl_nil (tn (wp_ret ?_))))
 obtain rfl := some_inj hm
 refine post_ret (vs := [v332]) results10 (rvs_cons (rv_tmp z) rvs_nil) ?_
 replace hst := hst.pull1
 exact ⟨v332, z, hst.keep1⟩
}
}
}
}
}
}
}

theorem octet_Read_ref {w0 w : World} {I : HL} {R : SP} {a0 : (List Int)} {r0_0 : Value} (f0_0 : Ro (tyInt .u8) I r0_0 a0) (hst : St w0 w I [] R) {r : (octet_Reader)} (hm : octet_Read a0 = some r) :
  Calls prog 12 #[r0_0] w fun e w' => ∃ (q0 : Value), e = .returned (q0) ∧ St w0 w' I [at_octet_Reader q0 r] R := by {
 unfold octet_Read at hm
 refine calls_start (args := [r0_0]) func12 z ntmps12 (Nat.le_of_ble_eq_true z) ?_
 refine wp_seq (wrl (wv (.pointer none) z z z (wl_nil (tn (wp_seq (wrl (wv (r0_0) z z z (wv (.agg #[r0_0, .bool false]) z z (by obtain ⟨_, _, hv_, _⟩ := (ro_sliceV f0_0); rw [hv_]; kernel_rfl) ?_))))))))
 obtain ⟨b251, w252, ew253, eb254, hst⟩ := hst.box [r0_0, .bool false] 99
 refine wl_run (v := Pt b251 0) (w' := w252) z z (x_al (by kernel_rfl) ew253 eb254) ?_
 refine wv (Pt b251 0) z z z (wl_nil (tn (wp_ret ?_)))
 replace hst := at_octet_Reader_close (pv := Pt b251 0) (x := ({ p := a0, bad := false } : octet_Reader)) hst ⟨z, f0_0⟩
 obtain rfl := some_inj hm
 refine post_ret (vs := [Pt b251 0]) results12 (rvs_cons (rv_tmp z) rvs_nil) ?_
 exact ⟨.pointer (some ⟨b251, 0, none⟩), z, hst.keep1⟩
}

theorem octet_Reader_spoil_ref {w0 w : World} {I : HL} {R : SP} {a0 : octet_Reader} {p0 : Value}  (hst : St w0 w I [at_octet_Reader p0 a0] R) {r : (octet_Reader)} (hm : octet_Reader_spoil a0 = some r) :
  Calls prog 44 #[p0] w fun e w' => e = .returned (.tuple #[]) ∧ St w0 w' I [at_octet_Reader p0 r] R := by {
 unfold octet_Reader_spoil at hm
 refine calls_start (args := [p0]) func44 z ntmps44 (Nat.le_of_ble_eq_true z) ?_
 refine wp_seq (wrl (wv (p0) z z z ?_))
 obtain ⟨b263, v264, ⟨rfl, f266⟩, hst'⟩ := at_octet_Reader_open hst
 clear hst
 have hst := hst'
 clear hst'
 refine wv (.bool true) z z (by kernel_rfl) (wl_nil (tn ?_))
 refine wp_ift z ?_
 refine wrl (wv (Pt b263 0) z z z (wv (Pt b263 0) z z z (wv (Pt b263 1) z z (x_field z underlying99 z sizeOf4 z) ?_)))
 obtain ⟨w267, hr268, hst⟩ := hst.by_ [v264, .bool true] 1 (.bool true) sizeOf4 z (oC z oN) (by kernel_rfl)
 refine wl_unit z z (x_unit hr268) ?_
 refine wl_nil ?_
 replace hst := at_octet_Reader_close (pv := Pt b263 0) (x := ({ p := a0.p, bad := true } : octet_Reader)) hst ⟨z, f266⟩
 obtain rfl := some_inj hm
 refine post_end (vs := []) results44 rvs_nil ?_
 exact ⟨z, hst.keep1⟩
}

theorem octet_Reader_Num_ref {w0 w : World} {I : HL} {R : SP} {a0 : octet_Reader} {p0 : Value} {a1 : Int}  (hst : St w0 w I [at_octet_Reader p0 a0] R) {r : (Int × octet_Reader)} (hm : octet_Reader_Num a0 a1 = some r) :
  Calls prog 13 #[p0, I6 a1] w fun e w' => e = .returned (.int .u64 r.1) ∧ St w0 w' I [at_octet_Reader p0 r.2] R := by {
 unfold octet_Reader_Num at hm
 refine calls_start (args := [p0, I6 a1]) func13 z ntmps13 (Nat.le_of_ble_eq_true z) ?_
 refine wp_seq (wrl (wv (.int .u64 (0:Int)) z z z (wl_nil (tn (wp_seq (wp_seq (wrl (wv (p0) z z z ?_))))))))
 obtain ⟨b340, v341, ⟨rfl, f343⟩, hst'⟩ := at_octet_Reader_open hst
 clear hst
 have hst := hst'
 clear hst'
 refine wv (.bool false) z z (by kernel_rfl) (wv (.bool false) z z z (wv (Pt b340 0) ((wanted_eq z z z z).trans z) z z (wv (Pt b340 0) ((wanted_eq z z z z).trans z) z z (wv (Pt b340 1) ((wanted_eq z z z z).trans z) z (x_field z underlying99 z sizeOf4 z) (wv (.bool a0.bad) ((wanted_eq z z z z).trans z) z (x_load z isAgg4 (hst.bc0 z)) (wv (.bool a0.bad) z z (x_pick_f z z z) (wv (.bool a0.bad) z z z ?_)))))))
 refine bsplit a0.bad (fun hc344 => ?_) (fun hc344 => ?_)
 {
 replace hm := bif_t hc344 hm
 refine wo hc344 z z z z z z (wo hc344 z z z z z z (wv (.bool true) z z (x_pick_t hc344 z z) (wv (.bool true) z z z (wz z z z z z z (wz z z z z z z (wz z z z z z z (wz z z z z z z (wz z z z z z z (wz z z z z z z (wz z z z z z z (wv (.bool true) z z (x_pick_t z z z) (wl_nil (tn ?_)))))))))))))
 refine wp_ift z ?_
 refine wp_seq (wrl (wv (Pt b340 0) z z z ?_))
 replace hst := at_octet_Reader_close (pv := Pt b340 0) (x := a0) hst ⟨z, f343⟩
 obtain ⟨t345, ht346, hm⟩ := bind_some hm
 refine wc call44 [Pt b340 0] z z z ?_
 refine (octet_Reader_spoil_ref hst.to1 ht346).mono ?_
 rintro _ w347 ⟨rfl, hst⟩
 refine ⟨_, z, ?_⟩
 replace hst := hst.of1
 refine wl_nil (tn (wp_seq (wrl (wv (.int .u64 (0:Int)) z z z (wl_nil (tn (wp_ret (then_r ?_))))))))
 obtain rfl := some_inj hm
 refine post_ret (vs := [Zu]) results13 (rvs_cons (rv_tmp z) rvs_nil) ?_
 exact ⟨z, hst.keep1⟩
}
 {
 replace hm := bif_f hc344 hm
 refine wv (.int .i64 a1) ((wanted_eq z z z (cvb hc344)).trans z) z z (wv (.bool (decide (a1 < (0:Int)))) ((wanted_eq z z z (cvb hc344)).trans z) z z (wv (.bool (decide (a1 < (0:Int)))) z z (x_pick_f hc344 z z) (wv (.bool (decide (a1 < (0:Int)))) z z z ?_)))
 refine bsplit (decide (a1 < (0:Int))) (fun hc350 => ?_) (fun hc350 => ?_)
 {
 replace hm := bif_t hc350 hm
 refine wo hc350 z z z z z z (wo hc350 z z z z z z (wo hc350 z z z z z z (wo hc350 z z z z z z (wo hc350 z z z z z z (wo hc350 z z z z z z (wo hc350 z z z z z z (wv (.bool true) z z (x_pick_t hc350 z z) (wl_nil (tn ?_)))))))))
 refine wp_ift z ?_
 refine wp_seq (wrl (wv (Pt b340 0) z z z ?_))
 replace hst := at_octet_Reader_close (pv := Pt b340 0) (x := a0) hst ⟨z, f343⟩
 obtain ⟨t351, ht352, hm⟩ := bind_some hm
 refine wc call44 [Pt b340 0] z z z ?_
 refine (octet_Reader_spoil_ref hst.to1 ht352).mono ?_
 rintro _ w353 ⟨rfl, hst⟩
 refine ⟨_, z, ?_⟩
 replace hst := hst.of1
 refine wl_nil (tn (wp_seq (wrl (wv (.int .u64 (0:Int)) z z z (wl_nil (tn (wp_ret (then_r ?_))))))))
 obtain rfl := some_inj hm
 refine post_ret (vs := [Zu]) results13 (rvs_cons (rv_tmp z) rvs_nil) ?_
 exact ⟨z, hst.keep1⟩
}
 {
 replace hm := bif_f hc350 hm
 refine wv (Pt b340 0) ((wanted_eq z z z (cvb hc350)).trans z) z z (wv (Pt b340 0) ((wanted_eq z z z (cvb hc350)).trans z) z z (wv (Pt b340 0) ((wanted_eq z z z (cvb hc350)).trans z) z (x_field z underlying99 z sizeOf22 z) (wv (v341) ((wanted_eq z z z (cvb hc350)).trans z) z (x_load z isAgg22 (hst.bc0 z)) (wv (.int .i64 ((a0.p).length : Int)) ((wanted_eq z z z (cvb hc350)).trans z) z (x_len z underlying22 (ro_sliceV f343)) (wv (.int .i64 a1) ((wanted_eq z z z (cvb hc350)).trans z) z z (wv (.bool (decide (((a0.p).length : Int) < a1))) ((wanted_eq z z z (cvb hc350)).trans z) z z (wv (.bool (decide (((a0.p).length : Int) < a1))) z z (x_pick_f hc350 z z) (wl_nil (tn ?_)))))))))
 refine bsplit (decide (((a0.p).length : Int) < a1)) (fun hc356 => ?_) (fun hc356 => ?_)
 {
 replace hm := bif_t hc356 hm
 refine wp_ift (cvb hc356) ?_
 refine wp_seq (wrl (wv (Pt b340 0) z z z ?_))
 replace hst := at_octet_Reader_close (pv := Pt b340 0) (x := a0) hst ⟨z, f343⟩
 obtain ⟨t357, ht358, hm⟩ := bind_some hm
 refine wc call44 [Pt b340 0] z z z ?_
 refine (octet_Reader_spoil_ref hst.to1 ht358).mono ?_
 rintro _ w359 ⟨rfl, hst⟩
 refine ⟨_, z, ?_⟩
 replace hst := hst.of1
 refine wl_nil (tn (wp_seq (wrl (wv (.int .u64 (0:Int)) z z z (wl_nil (tn (wp_ret (then_r ?_))))))))
 obtain rfl := some_inj hm
 refine post_ret (vs := [Zu]) results13 (rvs_cons (rv_tmp z) rvs_nil) ?_
 exact ⟨z, hst.keep1⟩
}
 {
 replace hm := bif_f hc356 hm
 refine wp_iff (cvb hc356) ?_
 refine wp_skip (tn (wp_seq (wrl ?_)))
 refine wv (.int .u64 (0:Int)) z z z (wl_nil (tn ?_))
 obtain ⟨y413, hm, hx414⟩ := bind_some hm
 refine wp_cut (fun a w => ∃ (z410 : Int) (σ411 : Nat → Value), (octet_Reader_Num_j0 a0 a1) z410 = some r ∧ a = Fr 59 (upd (upd (upd σ411 0 (Pt b340 0)) 1 (.int .i64 a1)) 5 (.int .u64 z410)) ∧ St w0 w I [at_octet_Reader (Pt b340 0) a0] R) ?_ ?_
 {
 refine wp_seq (wrl (wv (.int .i64 a1) z z z (wv (.int .i64 (if (8:Int) < a1 then (8:Int) else a1)) z z (by kernel_rfl) (wv (.int .i64 (0:Int)) z z z (wl_nil (tn (wp_block ?_)))))))
 replace hst := at_octet_Reader_close (pv := Pt b340 0) (x := a0) hst ⟨z, f343⟩
 obtain ⟨n391, hm⟩ := loopO_some hm
 refine wp_loop_n (fun n a w => ∃ (z388 : Int) (z389 : Int) (σ390 : Nat → Value), loopN (octet_Reader_Num_l1 a1 a0) n (z388, z389) = some y413 ∧ a = Fr 59 (upd (upd (upd (upd (upd σ390 0 (Pt b340 0)) 1 (.int .i64 a1)) 5 (.int .u64 z389)) 31 (.int .i64 (if (8:Int) < a1 then (8:Int) else a1))) 32 (.int .i64 z388)) ∧ St w0 w I [at_octet_Reader (Pt b340 0) a0] R) n391 ⟨(0:Int), (0:Int), _, hm, (fu 0 (Pt b340 0) z (fu 1 (.int .i64 a1) z (fu 5 (.int .u64 (0:Int)) z (fu 31 (.int .i64 (if (8:Int) < a1 then (8:Int) else a1)) z (fu 32 (.int .i64 (0:Int)) z z))))), hst⟩ ?_
 rintro n397 _ w392 ⟨z388, z389, σ390, hm, rfl, hst⟩
 obtain ⟨n394, y395, rfl, hm, hx396⟩ := loopN_some hm
 dsimp only [octet_Reader_Num_l1] at hm
 refine wp_seq (wrl (wv (.bool (decide (z388 < (if (8:Int) < a1 then (8:Int) else a1)))) z z z (wl_nil (tn (wp_seq ?_)))))
 refine bsplit (decide (z388 < (if (8:Int) < a1 then (8:Int) else a1))) (fun hc398 => ?_) (fun hc398 => ?_)
 {
 replace hm := bif_t hc398 hm
 refine wp_ift (cvb hc398) ?_
 refine wp_skip (tn (wp_seq (wp_block (wp_seq (wrl ?_)))))
 refine wv (.int .i64 z388) z z z (wv (.int .i64 z388) z z z (wl_nil (tn (wrl (wv (.int .u64 z389) z z z (wv (Pt b340 0) z z z ?_))))))
 obtain ⟨b399, v400, ⟨e403, f402⟩, hst'⟩ := at_octet_Reader_open hst
 clear hst
 have e403 := ptr_inj e403
 subst e403
 have hst := hst'
 clear hst'
 refine wv (Pt b340 0) z z z (wv (Pt b340 0) z z (x_field z underlying99 z sizeOf22 z) (wv (v400) z z (x_load z isAgg22 (hst.bc0 z)) (wv (.int .i64 z388) z z z ?_)))
 obtain ⟨x404, hx405, hm⟩ := bind_some hm
 obtain ⟨h406, h407, hi408⟩ := geto_some hx405
 refine wv (.pointer (some (eAddr v400 (z388.toNat * 1 + 0)))) z z (x_index z z underlying22 sizeOf5 (ro_sliceV f402) h406 h407) (wv (.int .u8 x404) z z (x_load z isAgg5 (ro_load f402 hst hi408 (by rintro _ rfl; rfl))) (wv (.int .u64 (u64.wrap x404)) z z (by kernel_rfl) (wv (.int .i64 z388) z z z (wv (.int .i64 (i64.wrap ((8:Int) * z388))) z z z ?_))))
 obtain ⟨hg409, hm⟩ := gd_some hm
 refine wv (.int .u64 (iShl .u64 (u64.wrap x404) (i64.wrap ((8:Int) * z388)))) z z (x_shl (of_decide_eq_true hg409) z z) (wv (.int .u64 (bOr .u64 z389 (iShl .u64 (u64.wrap x404) (i64.wrap ((8:Int) * z388))))) z z z (wv (.int .u64 (bOr .u64 z389 (iShl .u64 (u64.wrap x404) (i64.wrap ((8:Int) * z388))))) z z z (wl_nil (blk_n (tn (wrl (wv (.int .i64 (i64.wrap (z388 + (1:Int)))) z z z (wv (.int .i64 (i64.wrap (z388 + (1:Int)))) z z z (wl_nil (tn ?_))))))))))
 replace hst := at_octet_Reader_close (pv := Pt b340 0) (x := a0) hst ⟨z, f402⟩
 replace hst := hst.keep1
 obtain rfl := some_inj hm
 exact ⟨_, Nat.lt_succ_self _, (i64.wrap (z388 + (1:Int))), (bOr .u64 z389 (iShl .u64 (u64.wrap x404) (i64.wrap ((8:Int) * z388)))), _, hx396, (fu 0 (Pt b340 0) z (fu 1 (.int .i64 a1) z (fu 5 (.int .u64 (bOr .u64 z389 (iShl .u64 (u64.wrap x404) (i64.wrap ((8:Int) * z388))))) z (fu 31 (.int .i64 (if (8:Int) < a1 then (8:Int) else a1)) z (fu 32 (.int .i64 (i64.wrap (z388 + (1:Int)))) z z))))), hst⟩
}
 {
 replace hm := bif_f hc398 hm
 refine wp_iff (cvb hc398) ?_
 refine wp_exit (then_x (then_x ?_))
 replace hm := inr_up hm hx396
 refine blk_x (tn ?_)
 replace hst := hst.keep1
 obtain rfl := some_inj hm
 exact ⟨z389, _, hx414, (fu 0 (Pt b340 0) z (fu 1 (.int .i64 a1) z (fu 5 (.int .u64 z389) z z))), hst⟩
}
}
 {
 clear hst
 rintro _ w415 ⟨z410, σ411, hm, rfl, hst⟩
 dsimp only [octet_Reader_Num_j0] at hm
 refine wp_seq (wrl (wv (Pt b340 0) z z z (wv (Pt b340 0) z z z ?_)))
 obtain ⟨b416, v417, ⟨e420, f419⟩, hst'⟩ := at_octet_Reader_open hst
 clear hst
 have e420 := ptr_inj e420
 subst e420
 have hst := hst'
 clear hst'
 refine wv (Pt b340 0) z z z (wv (Pt b340 0) z z (x_field z underlying99 z sizeOf22 z) (wv (v417) z z (x_load z isAgg22 (hst.bc0 z)) (wv (.int .i64 a1) z z z ?_)))
 obtain ⟨hg421, hm⟩ := gd_some hm
 obtain ⟨h422, h423, h424⟩ := fits_of hg421
 have f426 : Ro (tyInt .u8) I (slcV 1 v417 a1.toNat (((a0.p).length : Nat) : Int).toNat) (subs a0.p a1 (((a0.p).length : Nat) : Int)) := Ro.part f419 h423 h424 h422
 refine wv ((slcV 1 v417 a1.toNat (((a0.p).length : Nat) : Int).toNat)) z z (x_slice underlying22 sizeOf5 z (ro_sliceV f419) h422 h423 h424 .i64 .i64 (.inl z) (.inr ⟨z, z⟩)) (wv (Pt b340 0) z z z (wv (Pt b340 0) z z (x_field z underlying99 z sizeOf22 z) ?_))
 obtain ⟨w427, hr428, hst⟩ := hst.boxStore1 (P := prog) (t := 22) (cs' := [(slcV 1 v417 a1.toNat (((a0.p).length : Nat) : Int).toNat), .bool a0.bad]) 0 (slcV 1 v417 a1.toNat (((a0.p).length : Nat) : Int).toNat) (one_of_sliceV (ro_sliceV f426)) sizeOf22 z z
 refine wl_unit z z (x_unit hr428) ?_
 refine wl_nil (tn (wp_seq (wrl (wv (.int .u64 z410) z z z (wv (.int .u64 z410) z z z (wl_nil (tn (wp_ret ?_))))))))
 replace hst := at_octet_Reader_close (pv := Pt b340 0) (x := ({ p := (subs a0.p a1 (((a0.p).length : Nat) : Int)), bad := a0.bad } : octet_Reader)) hst ⟨z, f426⟩
 obtain rfl := some_inj hm
 refine post_ret (vs := [U6 z410]) results13 (rvs_cons (rv_tmp z) rvs_nil) ?_
 exact ⟨z, hst.keep1⟩
}
}
}
}
}

theorem octet_Reader_Flag_ref {w0 w : World} {I : HL} {R : SP} {a0 : octet_Reader} {p0 : Value}  (hst : St w0 w I [at_octet_Reader p0 a0] R) {r : (Bool × octet_Reader)} (hm : octet_Reader_Flag a0 = some r) :
  Calls prog 45 #[p0] w fun e w' => e = .returned (.bool r.1) ∧ St w0 w' I [at_octet_Reader p0 r.2] R := by {
 unfold octet_Reader_Flag at hm
 refine calls_start (args := [p0]) func45 z ntmps45 (Nat.le_of_ble_eq_true z) ?_
 refine wp_seq (wrl (wv (.bool false) z z z (wl_nil (tn (wp_seq (wrl (wv (p0) z z z ?_)))))))
 obtain ⟨t350, ht351, hm⟩ := bind_some hm
 refine wc call13 [p0, I6 (1:Int)] z z z ?_
 refine (octet_Reader_Num_ref hst.to1 ht351).mono ?_
 rintro _ w352 ⟨rfl, hst⟩
 refine ⟨_, z, ?_⟩
 replace hst := hst.of1
 refine wv (.int .u64 t350.1) z z z (wl_nil (tn (wp_seq (wp_seq (wrl (wv (.int .u64 t350.1) z z z (wv (.bool (decide (t350.1 > (1:Int)))) z z z (wl_nil (tn ?_)))))))))
 refine bsplit (decide (t350.1 > (1:Int))) (fun hc355 => ?_) (fun hc355 => ?_)
 {
 replace hm := bif_t hc355 hm
 refine wp_ift (cvb hc355) ?_
 refine wp_seq (wrl (wv (p0) z z z ?_))
 obtain ⟨t356, ht357, hm⟩ := bind_some hm
 refine wc call44 [p0] z z z ?_
 refine (octet_Reader_spoil_ref hst.to1 ht357).mono ?_
 rintro _ w358 ⟨rfl, hst⟩
 refine ⟨_, z, ?_⟩
 replace hst := hst.of1
 refine wl_nil (tn (wp_seq (wrl (wv (.bool false) z z z (wl_nil (tn (wp_ret (then_r ?_))))))))
 obtain rfl := some_inj hm
 refine post_ret (vs := [.bool false]) results45 (rvs_cons (rv_tmp z) rvs_nil) ?_
 exact ⟨z, hst.keep1⟩
}
 {
 replace hm := bif_f hc355 hm
 refine wp_iff (cvb hc355) ?_
 refine wp_skip (tn (wp_seq (wrl ?_)))
 refine wv (.int .u64 t350.1) z z z (wv (.bool (t350.1 == (1:Int))) z z z (wv (.bool (t350.1 == (1:Int))) z z z (wl_nil (tn (wp_ret ?_)))))
 obtain rfl := some_inj hm
 refine post_ret (vs := [.bool (t350.1 == (1:Int))]) results45 (rvs_cons (rv_tmp z) rvs_nil) ?_
 exact ⟨z, hst.keep1⟩
}
}

theorem octet_Reader_Bad_ref {w0 w : World} {I : HL} {R : SP} {a0 : octet_Reader} {p0 : Value}  (hst : St w0 w I [at_octet_Reader p0 a0] R) {r : (Bool)} (hm : octet_Reader_Bad a0 = some r) :
  Calls prog 52 #[p0] w fun e w' => e = .returned (.bool r) ∧ St w0 w' I [at_octet_Reader p0 a0] R := by {
 unfold octet_Reader_Bad at hm
 refine calls_start (args := [p0]) func52 z ntmps52 (Nat.le_of_ble_eq_true z) ?_
 refine wp_seq (wrl (wv (.bool false) z z z (wl_nil (tn (wp_seq (wrl (wv (p0) z z z ?_)))))))
 obtain ⟨b360, v361, ⟨rfl, f363⟩, hst'⟩ := at_octet_Reader_open hst
 clear hst
 have hst := hst'
 clear hst'
 refine wv (.bool false) z z (by kernel_rfl) (wv (.bool false) z z z (wv (Pt b360 0) ((wanted_eq z z z z).trans z) z z (wv (Pt b360 0) ((wanted_eq z z z z).trans z) z z (wv (Pt b360 1) ((wanted_eq z z z z).trans z) z (x_field z underlying99 z sizeOf4 z) (wv (.bool a0.bad) ((wanted_eq z z z z).trans z) z (x_load z isAgg4 (hst.bc0 z)) (wv (.bool a0.bad) z z (x_pick_f z z z) (wv (.bool a0.bad) z z z (wl_nil (tn (wp_ret ?_))))))))))
 replace hst := at_octet_Reader_close (pv := Pt b360 0) (x := a0) hst ⟨z, f363⟩
 obtain rfl := some_inj hm
 refine post_ret (vs := [.bool a0.bad]) results52 (rvs_cons (rv_tmp z) rvs_nil) ?_
 exact ⟨z, hst.keep1⟩
}

theorem octet_Reader_Left_ref {w0 w : World} {I : HL} {R : SP} {a0 : octet_Reader} {p0 : Value}  (hst : St w0 w I [at_octet_Reader p0 a0] R) {r : (Int)} (hm : octet_Reader_Left a0 = some r) :
  Calls prog 47 #[p0] w fun e w' => e = .returned (.int .i64 r) ∧ St w0 w' I [at_octet_Reader p0 a0] R := by {
 unfold octet_Reader_Left at hm
 refine calls_start (args := [p0]) func47 z ntmps47 (Nat.le_of_ble_eq_true z) ?_
 refine wp_seq (wrl (wv (.int .i64 (0:Int)) z z z (wl_nil (tn (wp_seq (wp_seq (wrl (wv (p0) z z z ?_))))))))
 obtain ⟨t365, ht366, hm⟩ := bind_some hm
 refine wc call52 [p0] z z z ?_
 refine (octet_Reader_Bad_ref hst.to1 ht366).mono ?_
 rintro _ w367 ⟨rfl, hst⟩
 refine ⟨_, z, ?_⟩
 replace hst := hst.of1
 refine wl_nil (tn ?_)
 refine bsplit t365 (fun hc370 => ?_) (fun hc370 => ?_)
 {
 replace hm := bif_t hc370 hm
 refine wp_ift (cvb hc370) ?_
 refine wp_seq (wrl (wv (.int .i64 (0:Int)) z z z (wl_nil (tn (wp_ret (then_r ?_))))))
 obtain rfl := some_inj hm
 refine post_ret (vs := [Zi]) results47 (rvs_cons (rv_tmp z) rvs_nil) ?_
 exact ⟨z, hst.keep1⟩
}
 {
 replace hm := bif_f hc370 hm
 refine wp_iff (cvb hc370) ?_
 refine wp_skip (tn (wp_seq (wrl ?_)))
 refine wv (p0) z z z ?_
 obtain ⟨b371, v372, ⟨rfl, f374⟩, hst'⟩ := at_octet_Reader_open hst
 clear hst
 have hst := hst'
 clear hst'
 refine wv (Pt b371 0) z z z (wv (Pt b371 0) z z (x_field z underlying99 z sizeOf22 z) (wv (v372) z z (x_load z isAgg22 (hst.bc0 z)) (wv (.int .i64 ((a0.p).length : Int)) z z (x_len z underlying22 (ro_sliceV f374)) (wv (.int .i64 ((a0.p).length : Int)) z z z (wl_nil (tn (wp_ret ?_)))))))
 replace hst := at_octet_Reader_close (pv := Pt b371 0) (x := a0) hst ⟨z, f374⟩
 obtain rfl := some_inj hm
 refine post_ret (vs := [I6 ((a0.p).length : Int)]) results47 (rvs_cons (rv_tmp z) rvs_nil) ?_
 exact ⟨z, hst.keep1⟩
}
}

theorem octet_Reader_Count_ref {w0 w : World} {I : HL} {R : SP} {a0 : octet_Reader} {p0 : Value} {a1 : Int}  (hst : St w0 w I [at_octet_Reader p0 a0] R) {r : (Int × octet_Reader)} (hm : octet_Reader_Count a0 a1 = some r) :
  Calls prog 46 #[p0, I6 a1] w fun e w' => e = .returned (.int .i64 r.1) ∧ St w0 w' I [at_octet_Reader p0 r.2] R := by {
 unfold octet_Reader_Count at hm
 refine calls_start (args := [p0, I6 a1]) func46 z ntmps46 (Nat.le_of_ble_eq_true z) ?_
 refine wp_seq (wrl (wv (.int .i64 (0:Int)) z z z (wl_nil (tn (wp_seq (wrl (wv (p0) z z z ?_)))))))
 obtain ⟨t377, ht378, hm⟩ := bind_some hm
 refine wc call13 [p0, I6 (4:Int)] z z z ?_
 refine (octet_Reader_Num_ref hst.to1 ht378).mono ?_
 rintro _ w379 ⟨rfl, hst⟩
 refine ⟨_, z, ?_⟩
 replace hst := hst.of1
 refine wv (.int .u64 t377.1) z z z (wl_nil (tn (wp_seq (wp_seq (wrl (wv (.int .i64 a1) z z z (wv (.bool (decide (a1 < (0:Int)))) z z z (wv (.bool (decide (a1 < (0:Int)))) z z z ?_))))))))
 refine bsplit (decide (a1 < (0:Int))) (fun hc382 => ?_) (fun hc382 => ?_)
 {
 replace hm := bif_t hc382 hm
 refine wo hc382 z z z z z z (wo hc382 z z z z z z (wo hc382 z z z z z z (wo hc382 z z z z z z (wv (.bool true) z z (x_pick_t hc382 z z) (wl_nil (tn ?_))))))
 refine wp_ift z ?_
 refine wp_seq (wrl (wv (p0) z z z ?_))
 obtain ⟨t383, ht384, hm⟩ := bind_some hm
 refine wc call44 [p0] z z z ?_
 refine (octet_Reader_spoil_ref hst.to1 ht384).mono ?_
 rintro _ w385 ⟨rfl, hst⟩
 refine ⟨_, z, ?_⟩
 replace hst := hst.of1
 refine wl_nil (tn (wp_seq (wrl (wv (.int .i64 (0:Int)) z z z (wl_nil (tn (wp_ret (then_r ?_))))))))
 obtain rfl := some_inj hm
 refine post_ret (vs := [Zi]) results46 (rvs_cons (rv_tmp z) rvs_nil) ?_
 exact ⟨z, hst.keep1⟩
}
 {
 replace hm := bif_f hc382 hm
 refine wv (.int .u64 t377.1) ((wanted_eq z z z (cvb hc382)).trans z) z z (wv (.int .i64 a1) ((wanted_eq z z z (cvb hc382)).trans z) z z (wv (.int .u64 (u64.wrap a1)) ((wanted_eq z z z (cvb hc382)).trans z) z (by kernel_rfl) (wv (.bool (decide (t377.1 > (u64.wrap a1)))) ((wanted_eq z z z (cvb hc382)).trans z) z z (wv (.bool (decide (t377.1 > (u64.wrap a1)))) z z (x_pick_f hc382 z z) (wl_nil (tn ?_))))))
 refine bsplit (decide (t377.1 > (u64.wrap a1))) (fun hc388 => ?_) (fun hc388 => ?_)
 {
 replace hm := bif_t hc388 hm
 refine wp_ift (cvb hc388) ?_
 refine wp_seq (wrl (wv (p0) z z z ?_))
 obtain ⟨t389, ht390, hm⟩ := bind_some hm
 refine wc call44 [p0] z z z ?_
 refine (octet_Reader_spoil_ref hst.to1 ht390).mono ?_
 rintro _ w391 ⟨rfl, hst⟩
 refine ⟨_, z, ?_⟩
 replace hst := hst.of1
 refine wl_nil (tn (wp_seq (wrl (wv (.int .i64 (0:Int)) z z z (wl_nil (tn (wp_ret (then_r ?_))))))))
 obtain rfl := some_inj hm
 refine post_ret (vs := [Zi]) results46 (rvs_cons (rv_tmp z) rvs_nil) ?_
 exact ⟨z, hst.keep1⟩
}
 {
 replace hm := bif_f hc388 hm
 refine wp_iff (cvb hc388) ?_
 refine wp_skip (tn (wp_seq (wrl ?_)))
 refine wv (.int .u64 t377.1) z z z (wv (.int .i64 (i64.wrap t377.1)) z z (by kernel_rfl) (wv (.int .i64 (i64.wrap t377.1)) z z z (wl_nil (tn (wp_ret ?_)))))
 obtain rfl := some_inj hm
 refine post_ret (vs := [I6 (i64.wrap t377.1)]) results46 (rvs_cons (rv_tmp z) rvs_nil) ?_
 exact ⟨z, hst.keep1⟩
}
}
}

end Go.Proofs.Ytldfdainhdiffaa
