/- The Go functions refine their models, part 5. -/
import Derived.Test.YtgnkkopjkgdieaaGreatLaneHoldsR4
set_option linter.unusedVariables false
set_option linter.unusedSimpArgs false
set_option maxRecDepth 100000
set_option maxHeartbeats 4000000
namespace Go.Proofs.YtgnkkopjkgdieaaGreat
open Go Go.V
open _root_.Go.Proofs.Tryz IntKind
attribute [local irreducible] wpList Code.wp wpQuiet Calls bodyPost Oper.wp wpS Nx PendOK YieldsIn
theorem lane_State_give_ref {w0 w : World} {I : HL} {R : SP} {a0 : (Option lane_State)} {p0 : Value} {a1 : Int} {a2 : api_Command} {r2_0 : Value} {r2_1 : Value} {r2_2 : Value} {r2_3 : Value} {r2_4 : Value} {r2_5 : Value} {r2_6 : Value} {r2_7 : Value} (f2_0 : Rd tyF64 R I r2_0 a2.Hold.Gets) (f2_1 : Rd tyF2 R I r2_1 a2.Hold.Scans) (f2_2 : Rd tyF64 R I r2_2 a2.Hold.Puts) (f2_3 : Rd (tyInt .u8) R I r2_3 a2.Hold.Data) (f2_4 : Rd ty_api_Write R I r2_4 a2.Writes) (f2_5 : Rd ty_api_Got R I r2_5 a2.R.Gots) (f2_6 : Rd (tySl ty_api_Pair) R I r2_6 a2.R.Scans) (f2_7 : Rd ty_api_Part R I r2_7 a2.Parts) (hst : St w0 w I [objO at_lane_State p0 a0] R) {r : (api_Effect × (Option lane_State))} (hm : lane_State_give a0 a1 a2 = some r) :
  Calls prog 55 #[p0, U6 a1, .agg #[U1 a2.Kind, U6 a2.ID.Session, U6 a2.ID.Seq, U6 a2.Epoch, U6 a2.Index, I6 a2.E, U6 a2.Hold.ID.Session, U6 a2.Hold.ID.Seq, U6 a2.Hold.Epoch, r2_0, r2_1, r2_2, r2_3, r2_4, I6 a2.R.E, U6 a2.R.Epoch, U6 a2.R.Index, r2_5, r2_6, U6 a2.Shards, r2_7, U6 a2.Rule.ID, I6 a2.Rule.From, I6 a2.Rule.To, F6 a2.Rule.Lo, F6 a2.Rule.Hi, U6 a2.Rule.Authority, I6 a2.Rule.Quota, .bool a2.On]] w fun e w' => ∃ (I' : HL) (q0_0 : Value) (q0_1 : Value), e = .returned (.agg #[U1 r.1.Kind, U6 r.1.ID.Session, U6 r.1.ID.Seq, I6 r.1.R.E, U6 r.1.R.Epoch, U6 r.1.R.Index, q0_0, q0_1]) ∧ I.le I' ∧ Ro ty_api_Got I' q0_0 r.1.R.Gots ∧ Ro (tySl ty_api_Pair) I' q0_1 r.1.R.Scans ∧ St w0 w' I' [objO at_lane_State p0 r.2] R := by {
 rcases a0 with _ | o0
 {
 obtain ⟨rfl, hst'⟩ := objO_none hst
 clear hst
 have hst := hst'
 clear hst'
 dsimp only [lane_State_give] at hm
 refine calls_start (args := [.pointer none, U6 a1, .agg #[U1 a2.Kind, U6 a2.ID.Session, U6 a2.ID.Seq, U6 a2.Epoch, U6 a2.Index, I6 a2.E, U6 a2.Hold.ID.Session, U6 a2.Hold.ID.Seq, U6 a2.Hold.Epoch, r2_0, r2_1, r2_2, r2_3, r2_4, I6 a2.R.E, U6 a2.R.Epoch, U6 a2.R.Index, r2_5, r2_6, U6 a2.Shards, r2_7, U6 a2.Rule.ID, I6 a2.Rule.From, I6 a2.Rule.To, F6 a2.Rule.Lo, F6 a2.Rule.Hi, U6 a2.Rule.Authority, I6 a2.Rule.Quota, .bool a2.On]]) func55 z ntmps55 (Nat.le_of_ble_eq_true z) ?_
 have hI0 := HL.le.refl I
 refine wp_seq (wrl ?_)
 obtain ⟨b775, w776, ew777, eb778, hst⟩ := hst.box [U1 a2.Kind, U6 a2.ID.Session, U6 a2.ID.Seq, U6 a2.Epoch, U6 a2.Index, I6 a2.E, U6 a2.Hold.ID.Session, U6 a2.Hold.ID.Seq, U6 a2.Hold.Epoch, r2_0, r2_1, r2_2, r2_3, r2_4, I6 a2.R.E, U6 a2.R.Epoch, U6 a2.R.Index, r2_5, r2_6, U6 a2.Shards, r2_7, U6 a2.Rule.ID, I6 a2.Rule.From, I6 a2.Rule.To, F6 a2.Rule.Lo, F6 a2.Rule.Hi, U6 a2.Rule.Authority, I6 a2.Rule.Quota, .bool a2.On] 49
 refine wl_run (v := Pt b775 0) (w' := w776) z z (x_al (by kernel_rfl) ew777 eb778) ?_
 obtain ⟨b782, w783, ew784, eb785, hst⟩ := hst.box [Zb, Zu, Zu, Zi, Zu, Zu, Zs, Zs] 35
 refine wl_run (v := Pt b782 0) (w' := w783) z z (x_al (by kernel_rfl) ew784 eb785) ?_
 refine wl_nil (tn (wp_seq (wrl (wv (Pt b775 14) z z (x_field z underlying49 z sizeOf33 z) (wv (Pt b775 14) z z (x_field z underlying33 z sizeOf29 z) (wv (.int .i64 a2.R.E) z z (x_load z isAgg29 (hst.bc1 z)) (wv (Pt b775 3) z z (x_field z underlying49 z sizeOf26 z) (wv (.int .u64 a2.Epoch) z z (x_load z isAgg26 (hst.bc1 z)) (wv (.int .u64 a1) z z z (wv (.agg #[I6 a2.R.E, U6 a2.Epoch, U6 a1, Zs, Zs]) z z (by kernel_rfl) ?_))))))))))
 obtain ⟨b791, w792, ew793, eb794, hst⟩ := hst.box [Zi, Zu, Zu, Zs, Zs] 33
 refine wl_run (v := Pt b791 0) (w' := w792) z z (x_al (by kernel_rfl) ew793 eb794) ?_
 obtain ⟨w796, hr797, hst⟩ := hst.bx [I6 a2.R.E, U6 a2.Epoch, U6 a1, Zs, Zs] sizeOf33 z (oC z (oC z (oC z (oC z (oC z oN))))) (by kernel_rfl)
 refine wl_unit z z (x_unit hr797) ?_
 refine wl_nil (tn (wp_seq ?_))
 refine wp_region_St hst 13 [0, 1, 2, 3, 4, 5, 6, 7, 8, 9, 10, 11, 12] [0, 1, 3, 7, 0, 16, 48, 127, 255, 511, 511, 1023, 4095] [] z (by kernel_rfl) (by kernel_rfl) Tryz.mixed (by kernel_rfl) ?_
 refine wsr (.pointer none) 0 z z z (by kernel_rfl) (fun w hst => z) ?_
 cases hm
}
 {
 replace hst := objO_get hst
 dsimp only [lane_State_give] at hm
 refine calls_start (args := [p0, U6 a1, .agg #[U1 a2.Kind, U6 a2.ID.Session, U6 a2.ID.Seq, U6 a2.Epoch, U6 a2.Index, I6 a2.E, U6 a2.Hold.ID.Session, U6 a2.Hold.ID.Seq, U6 a2.Hold.Epoch, r2_0, r2_1, r2_2, r2_3, r2_4, I6 a2.R.E, U6 a2.R.Epoch, U6 a2.R.Index, r2_5, r2_6, U6 a2.Shards, r2_7, U6 a2.Rule.ID, I6 a2.Rule.From, I6 a2.Rule.To, F6 a2.Rule.Lo, F6 a2.Rule.Hi, U6 a2.Rule.Authority, I6 a2.Rule.Quota, .bool a2.On]]) func55 z ntmps55 (Nat.le_of_ble_eq_true z) ?_
 have hI0 := HL.le.refl I
 refine wp_seq (wrl ?_)
 obtain ⟨b798, w799, ew800, eb801, hst⟩ := hst.box [U1 a2.Kind, U6 a2.ID.Session, U6 a2.ID.Seq, U6 a2.Epoch, U6 a2.Index, I6 a2.E, U6 a2.Hold.ID.Session, U6 a2.Hold.ID.Seq, U6 a2.Hold.Epoch, r2_0, r2_1, r2_2, r2_3, r2_4, I6 a2.R.E, U6 a2.R.Epoch, U6 a2.R.Index, r2_5, r2_6, U6 a2.Shards, r2_7, U6 a2.Rule.ID, I6 a2.Rule.From, I6 a2.Rule.To, F6 a2.Rule.Lo, F6 a2.Rule.Hi, U6 a2.Rule.Authority, I6 a2.Rule.Quota, .bool a2.On] 49
 refine wl_run (v := Pt b798 0) (w' := w799) z z (x_al (by kernel_rfl) ew800 eb801) ?_
 obtain ⟨b805, w806, ew807, eb808, hst⟩ := hst.box [Zb, Zu, Zu, Zi, Zu, Zu, Zs, Zs] 35
 refine wl_run (v := Pt b805 0) (w' := w806) z z (x_al (by kernel_rfl) ew807 eb808) ?_
 refine wl_nil (tn (wp_seq (wrl (wv (Pt b798 14) z z (x_field z underlying49 z sizeOf33 z) (wv (Pt b798 14) z z (x_field z underlying33 z sizeOf29 z) (wv (.int .i64 a2.R.E) z z (x_load z isAgg29 (hst.bc1 z)) (wv (Pt b798 3) z z (x_field z underlying49 z sizeOf26 z) (wv (.int .u64 a2.Epoch) z z (x_load z isAgg26 (hst.bc1 z)) (wv (.int .u64 a1) z z z (wv (.agg #[I6 a2.R.E, U6 a2.Epoch, U6 a1, Zs, Zs]) z z (by kernel_rfl) ?_))))))))))
 obtain ⟨b814, w815, ew816, eb817, hst⟩ := hst.box [Zi, Zu, Zu, Zs, Zs] 33
 refine wl_run (v := Pt b814 0) (w' := w815) z z (x_al (by kernel_rfl) ew816 eb817) ?_
 obtain ⟨w819, hr820, hst⟩ := hst.bx [I6 a2.R.E, U6 a2.Epoch, U6 a1, Zs, Zs] sizeOf33 z (oC z (oC z (oC z (oC z (oC z oN))))) (by kernel_rfl)
 refine wl_unit z z (x_unit hr820) ?_
 refine wl_nil (tn (wp_seq ?_))
 replace hst := hst.pull3
 obtain ⟨b821, v822, v824, v826, v828, v830, v832, v834, rfl, hst'⟩ := at_lane_State_open hst
 clear hst
 have hst := hst'
 clear hst'
 refine wp_region_St hst 13 [0, 1, 2, 3, 4, 5, 6, 7, 8, 9, 10, 11, 12] [0, 1, 3, 7, 0, 16, 48, 127, 255, 511, 511, 1023, 4095] [] z (by kernel_rfl) (by kernel_rfl) Tryz.mixed (by kernel_rfl) ?_
 refine wsr (Pt b821 0) 0 z z z (by kernel_rfl) (fun w hst => z) (wsr (Pt b821 0) 1 z z z (by kernel_rfl) (fun w hst => z) (wsr (Pt b821 8) 2 z z z (by kernel_rfl) (fun w hst => x_field z underlying111 z sizeOf109 z) (wsr (v834) 3 z z z (by kernel_rfl) (fun w hst => x_load z isAgg109 (hst.bc0 z)) (wsr (Pt b798 21) 4 z z z (by kernel_rfl) (fun w hst => x_field z underlying49 z sizeOf39 z) (wsr (Pt b798 21) 5 z z z (by kernel_rfl) (fun w hst => x_field z underlying39 z sizeOf26 z) (wsr (.int .u64 a2.Rule.ID) 6 z z z (by kernel_rfl) (fun w hst => x_load z isAgg26 (hst.bc10 z)) ?_))))))
 refine ws_e1 7 (by kernel_rfl) ?_
 refine nxe [8, 9, 10, 11, 12] (by kernel_rfl) z z ?_
 clear hst
 intro w hst
 obtain ⟨y904, hq905, hm⟩ := bind_some hm
 refine we_call z (x_callv call132 (caps := []) z (vs := [v834, U6 a2.Rule.ID, .func (.func 133) #[] #[]]) z) ?_
 refine Calls.mono (show Calls prog 132 #[v834, U6 a2.Rule.ID, .func (.func 133) #[] #[]] _ (fun e w' => ∃ (z901 : Int) (z902 : Bool), (z901, z902) = y904 ∧ e = .returned (.tuple #[I6 z901, .bool z902]) ∧ St w0 w' I [cells b821 [I6 o0.wide, U6 o0.epoch, v822, v824, v826, v828, v830, v832, v834], objO at_mvcc_Store v822 o0.store, objO at_locks_Table v824 o0.locks, objO at_session_Table v826 o0.last, objO at_policy_Book v828 o0.book, ownS ty_api_Decision v830 o0.open_, ownS ty_api_Item v832 o0.out, ownS ty_lane_used v834 o0.used, cells b798 [U1 a2.Kind, U6 a2.ID.Session, U6 a2.ID.Seq, U6 a2.Epoch, U6 a2.Index, I6 a2.E, U6 a2.Hold.ID.Session, U6 a2.Hold.ID.Seq, U6 a2.Hold.Epoch, r2_0, r2_1, r2_2, r2_3, r2_4, I6 a2.R.E, U6 a2.R.Epoch, U6 a2.R.Index, r2_5, r2_6, U6 a2.Shards, r2_7, U6 a2.Rule.ID, I6 a2.Rule.From, I6 a2.Rule.To, F6 a2.Rule.Lo, F6 a2.Rule.Hi, U6 a2.Rule.Authority, I6 a2.Rule.Quota, .bool a2.On], cells b805 [Zb, Zu, Zu, Zi, Zu, Zu, Zs, Zs], cells b814 [I6 a2.R.E, U6 a2.Epoch, U6 a1, Zs, Zs]] R) from ?_) ?_
 {
 clear hm; have hm := hq905
 refine calls_start (args := [v834, U6 a2.Rule.ID, .func (.func 133) #[] #[]]) func132 z ntmps132 (Nat.le_of_ble_eq_true z) ?_
 refine wp_seq (wrl (wv (.int .i64 (0:Int)) z z z (wv (.bool false) z z z (wl_nil (tn (wp_seq (wrl (wv (v834) z z z (wv (.int .i64 ((o0.used).length : Int)) z z (x_len z underlying109 hst.sv7) (wv (.int .i64 ((o0.used).length : Int)) z z z (wl_nil (tn (wp_seq (wrl (wv (.int .i64 ((o0.used).length : Int)) z z z (wv (.int .i64 (0:Int)) z z z (wv (.int .i64 ((o0.used).length : Int)) z z z (wl_nil (tn ?_)))))))))))))))))))
 obtain ⟨y887, hm, hx888⟩ := bind_some hm
 refine wp_cut (fun a w => ∃ (z884 : Int) (σ885 : Nat → Value), (lane_State_give_j0 o0 a2) z884 = some y904 ∧ a = Fr 49 (upd (upd (upd (upd (upd σ885 0 (v834)) 1 (.int .u64 a2.Rule.ID)) 2 (.func (.func 133) #[] #[])) 8 (.int .i64 ((o0.used).length : Int))) 9 (.int .i64 z884)) ∧ St w0 w I [ownS ty_lane_used v834 o0.used, cells b821 [I6 o0.wide, U6 o0.epoch, v822, v824, v826, v828, v830, v832, v834], objO at_mvcc_Store v822 o0.store, objO at_locks_Table v824 o0.locks, objO at_session_Table v826 o0.last, objO at_policy_Book v828 o0.book, ownS ty_api_Decision v830 o0.open_, ownS ty_api_Item v832 o0.out, cells b798 [U1 a2.Kind, U6 a2.ID.Session, U6 a2.ID.Seq, U6 a2.Epoch, U6 a2.Index, I6 a2.E, U6 a2.Hold.ID.Session, U6 a2.Hold.ID.Seq, U6 a2.Hold.Epoch, r2_0, r2_1, r2_2, r2_3, r2_4, I6 a2.R.E, U6 a2.R.Epoch, U6 a2.R.Index, r2_5, r2_6, U6 a2.Shards, r2_7, U6 a2.Rule.ID, I6 a2.Rule.From, I6 a2.Rule.To, F6 a2.Rule.Lo, F6 a2.Rule.Hi, U6 a2.Rule.Authority, I6 a2.Rule.Quota, .bool a2.On], cells b805 [Zb, Zu, Zu, Zi, Zu, Zu, Zs, Zs], cells b814 [I6 a2.R.E, U6 a2.Epoch, U6 a1, Zs, Zs]] R) ?_ ?_
 {
 refine wp_block ?_
 obtain ⟨n865, hm⟩ := loopO_some hm
 refine wp_loop_n (fun n a w => ∃ (z862 : Int) (z863 : Int) (σ864 : Nat → Value), loopN (lane_State_give_l1 o0 a2) n (z862, z863) = some y887 ∧ a = Fr 49 (upd (upd (upd (upd (upd (upd σ864 0 (v834)) 1 (.int .u64 a2.Rule.ID)) 2 (.func (.func 133) #[] #[])) 8 (.int .i64 ((o0.used).length : Int))) 9 (.int .i64 z863)) 10 (.int .i64 z862)) ∧ St w0 w I [cells b821 [I6 o0.wide, U6 o0.epoch, v822, v824, v826, v828, v830, v832, v834], objO at_mvcc_Store v822 o0.store, objO at_locks_Table v824 o0.locks, objO at_session_Table v826 o0.last, objO at_policy_Book v828 o0.book, ownS ty_api_Decision v830 o0.open_, ownS ty_api_Item v832 o0.out, ownS ty_lane_used v834 o0.used, cells b814 [I6 a2.R.E, U6 a2.Epoch, U6 a1, Zs, Zs], cells b805 [Zb, Zu, Zu, Zi, Zu, Zu, Zs, Zs], cells b798 [U1 a2.Kind, U6 a2.ID.Session, U6 a2.ID.Seq, U6 a2.Epoch, U6 a2.Index, I6 a2.E, U6 a2.Hold.ID.Session, U6 a2.Hold.ID.Seq, U6 a2.Hold.Epoch, r2_0, r2_1, r2_2, r2_3, r2_4, I6 a2.R.E, U6 a2.R.Epoch, U6 a2.R.Index, r2_5, r2_6, U6 a2.Shards, r2_7, U6 a2.Rule.ID, I6 a2.Rule.From, I6 a2.Rule.To, F6 a2.Rule.Lo, F6 a2.Rule.Hi, U6 a2.Rule.Authority, I6 a2.Rule.Quota, .bool a2.On]] R) n865 ⟨((o0.used).length : Int), (0:Int), _, hm, (fu 0 v834 z (fu 1 (.int .u64 a2.Rule.ID) z (fu 2 (.func (.func 133) #[] #[]) z (fu 8 (.int .i64 ((o0.used).length : Int)) z (fu 9 (.int .i64 (0:Int)) z (fu 10 (.int .i64 ((o0.used).length : Int)) z z)))))), hst⟩ ?_
 rintro n871 _ w866 ⟨z862, z863, σ864, hm, rfl, hst⟩
 obtain ⟨n868, y869, rfl, hm, hx870⟩ := loopN_some hm
 dsimp only [lane_State_give_l1] at hm
 refine wp_seq (wp_seq (wrl (wv (.int .i64 z863) z z z (wv (.int .i64 z862) z z z (wv (.bool (decide (z863 < z862))) z z z (wl_nil (tn ?_)))))))
 refine bsplit (decide (z863 < z862)) (fun hc872 => ?_) (fun hc872 => ?_)
 {
 replace hm := bif_t hc872 hm
 refine wp_ift (cvb hc872) ?_
 refine wp_skip (tn (wp_block (wp_seq (wrl ?_))))
 refine wv (.int .i64 z863) z z z (wv (.int .i64 z862) z z z (wv (.int .i64 (i64.wrap (z863 + z862))) z z z (wv (.int .u64 (u64.wrap (i64.wrap (z863 + z862)))) z z (by kernel_rfl) (wv (.int .u64 (iShr .u64 (u64.wrap (i64.wrap (z863 + z862))) (1:Int))) z z (x_shr (by decide) z z) (wv (.int .i64 (i64.wrap (iShr .u64 (u64.wrap (i64.wrap (z863 + z862))) (1:Int)))) z z (by kernel_rfl) (wv (.int .i64 (i64.wrap (iShr .u64 (u64.wrap (i64.wrap (z863 + z862))) (1:Int)))) z z z (wl_nil (tn (wp_seq (wrl (wv (.func (.func 133) #[] #[]) z z z (wv (v834) z z z (wv (.int .i64 (i64.wrap (iShr .u64 (u64.wrap (i64.wrap (z863 + z862))) (1:Int)))) z z z ?_)))))))))))))
 obtain ⟨x873, hx874, hm⟩ := bind_some hm
 obtain ⟨h875, h876, hi877⟩ := geto_some hx874
 refine wv (.pointer (some (eAddr v834 ((i64.wrap (iShr .u64 (u64.wrap (i64.wrap (z863 + z862))) (1:Int))).toNat * 3 + 0)))) z z (x_index z z underlying109 sizeOf189 hst.sv7 h875 h876) (wv (.agg #[U6 x873.rule, U6 x873.epoch, I6 x873.n]) z z (x_loadN (cs := [U6 x873.rule, U6 x873.epoch, I6 x873.n]) z isAgg189 sizeOf189 (hst.olN7 hi877 0 (by rintro _ rfl; rfl))) (wv (.int .u64 a2.Rule.ID) z z z ?_))
 obtain ⟨t878, ht879, hm⟩ := bind_some hm
 refine wl_call z z (x_callv call133 (caps := []) z (vs := [.agg #[U6 x873.rule, U6 x873.epoch, I6 x873.n], U6 a2.Rule.ID]) z) ?_
 refine (lane_State_give_1_ref hst.to0 ht879).mono ?_
 rintro _ w880 ⟨rfl, hst⟩
 refine ⟨_, z, ?_⟩
 replace hst := hst.of0
 refine wv (.bool (decide (t878 < (0:Int)))) z z z (wl_nil (tn ?_))
 refine bsplit (decide (t878 < (0:Int))) (fun hc883 => ?_) (fun hc883 => ?_)
 {
 replace hm := bif_t hc883 hm
 refine wp_ift (cvb hc883) ?_
 refine wrl (wv (.int .i64 (i64.wrap (iShr .u64 (u64.wrap (i64.wrap (z863 + z862))) (1:Int)))) z z z (wv (.int .i64 (i64.wrap ((i64.wrap (iShr .u64 (u64.wrap (i64.wrap (z863 + z862))) (1:Int))) + (1:Int)))) z z z (wv (.int .i64 (i64.wrap ((i64.wrap (iShr .u64 (u64.wrap (i64.wrap (z863 + z862))) (1:Int))) + (1:Int)))) z z z (wl_nil (blk_n (tn ?_))))))
 replace hst := hst.pull10.pull10.pull10.pull10.pull10.pull10.pull10.pull10.pull10.pull10.pull10.keep11
 obtain rfl := some_inj hm
 exact ⟨_, Nat.lt_succ_self _, z862, (i64.wrap ((i64.wrap (iShr .u64 (u64.wrap (i64.wrap (z863 + z862))) (1:Int))) + (1:Int))), _, hx870, (fu 0 v834 z (fu 1 (.int .u64 a2.Rule.ID) z (fu 2 (.func (.func 133) #[] #[]) z (fu 8 (.int .i64 ((o0.used).length : Int)) z (fu 9 (.int .i64 (i64.wrap ((i64.wrap (iShr .u64 (u64.wrap (i64.wrap (z863 + z862))) (1:Int))) + (1:Int)))) z (fu 10 (.int .i64 z862) z z)))))), hst⟩
}
 {
 replace hm := bif_f hc883 hm
 refine wp_iff (cvb hc883) ?_
 refine wrl (wv (.int .i64 (i64.wrap (iShr .u64 (u64.wrap (i64.wrap (z863 + z862))) (1:Int)))) z z z (wv (.int .i64 (i64.wrap (iShr .u64 (u64.wrap (i64.wrap (z863 + z862))) (1:Int)))) z z z (wl_nil (blk_n (tn ?_)))))
 replace hst := hst.pull10.pull10.pull10.pull10.pull10.pull10.pull10.pull10.pull10.pull10.pull10.keep11
 obtain rfl := some_inj hm
 exact ⟨_, Nat.lt_succ_self _, (i64.wrap (iShr .u64 (u64.wrap (i64.wrap (z863 + z862))) (1:Int))), z863, _, hx870, (fu 0 v834 z (fu 1 (.int .u64 a2.Rule.ID) z (fu 2 (.func (.func 133) #[] #[]) z (fu 8 (.int .i64 ((o0.used).length : Int)) z (fu 9 (.int .i64 z863) z (fu 10 (.int .i64 (i64.wrap (iShr .u64 (u64.wrap (i64.wrap (z863 + z862))) (1:Int)))) z z)))))), hst⟩
}
}
 {
 replace hm := bif_f hc872 hm
 refine wp_iff (cvb hc872) ?_
 refine wp_exit (then_x (then_x ?_))
 replace hm := inr_up hm hx870
 refine blk_x (tn ?_)
 replace hst := hst.pull8.pull9.pull10.pull9.pull9.pull9.pull9.pull9.pull9.pull9.pull10.keep11
 obtain rfl := some_inj hm
 exact ⟨z863, _, hx888, (fu 0 v834 z (fu 1 (.int .u64 a2.Rule.ID) z (fu 2 (.func (.func 133) #[] #[]) z (fu 8 (.int .i64 ((o0.used).length : Int)) z (fu 9 (.int .i64 z863) z z))))), hst⟩
}
}
 {
 clear hst
 rintro _ w889 ⟨z884, σ885, hm, rfl, hst⟩
 dsimp only [lane_State_give_j0] at hm
 refine wp_seq (wrl (wv (.int .i64 z884) z z z (wv (.int .i64 z884) z z z (wv (.int .i64 ((o0.used).length : Int)) z z z (wv (.bool (decide (z884 < ((o0.used).length : Int)))) z z z (wv (.bool (decide (z884 < ((o0.used).length : Int)))) z z z ?_))))))
 refine bsplit (decide (z884 < ((o0.used).length : Int))) (fun hc890 => ?_) (fun hc890 => ?_)
 {
 replace hm := bif_t hc890 hm
 refine wv (.func (.func 133) #[] #[]) ((wanted_eq z z z (cvb hc890)).trans z) z z (wv (v834) ((wanted_eq z z z (cvb hc890)).trans z) z z (wv (.int .i64 z884) ((wanted_eq z z z (cvb hc890)).trans z) z z ?_))
 obtain ⟨x891, hx892, hm⟩ := bind_some hm
 obtain ⟨h893, h894, hi895⟩ := geto_some hx892
 refine wv (.pointer (some (eAddr v834 (z884.toNat * 3 + 0)))) ((wanted_eq z z z (cvb hc890)).trans z) z (x_index z z underlying109 sizeOf189 hst.sv0 h893 h894) (wv (.agg #[U6 x891.rule, U6 x891.epoch, I6 x891.n]) ((wanted_eq z z z (cvb hc890)).trans z) z (x_loadN (cs := [U6 x891.rule, U6 x891.epoch, I6 x891.n]) z isAgg189 sizeOf189 (hst.olN0 hi895 0 (by rintro _ rfl; rfl))) (wv (.int .u64 a2.Rule.ID) ((wanted_eq z z z (cvb hc890)).trans z) z z ?_))
 obtain ⟨t896, ht897, hm⟩ := bind_some hm
 refine wl_call ((wanted_eq z z z (cvb hc890)).trans z) z (x_callv call133 (caps := []) z (vs := [.agg #[U6 x891.rule, U6 x891.epoch, I6 x891.n], U6 a2.Rule.ID]) z) ?_
 refine (lane_State_give_1_ref hst.to0 ht897).mono ?_
 rintro _ w898 ⟨rfl, hst⟩
 refine ⟨_, z, ?_⟩
 replace hst := hst.of0
 refine wv (.bool (t896 == (0:Int))) ((wanted_eq z z z (cvb hc890)).trans z) z z (wv (.bool (t896 == (0:Int))) z z (x_pick_t hc890 z z) (wv (.int .i64 z884) z z z (wv (.bool (t896 == (0:Int))) z z z (wl_nil (tn (wp_ret ?_))))))
 refine post_ret (vs := [I6 z884, .bool (t896 == (0:Int))]) results132 (rvs_cons (rv_tmp z) (rvs_cons (rv_tmp z) rvs_nil)) ?_
 replace hst := hst.pull10.pull10.pull10.pull3.pull10.pull10.pull10.pull10.pull10.pull10.pull10.keep11
 obtain rfl := some_inj hm
 exact ⟨z884, (t896 == (0:Int)), z, z, hst⟩
}
 {
 replace hm := bif_f hc890 hm
 refine wo hc890 z z z z z z (wo hc890 z z z z z z (wo hc890 z z z z z z (wo hc890 z z z z z z (wo hc890 z z z z z z (wo hc890 z z z z z z (wo hc890 z z z z z z (wo hc890 z z z z z z (wv (.bool false) z z (x_pick_f hc890 z z) (wv (.int .i64 z884) z z z (wv (.bool false) z z z (wl_nil (tn (wp_ret ?_)))))))))))))
 refine post_ret (vs := [I6 z884, .bool false]) results132 (rvs_cons (rv_tmp z) (rvs_cons (rv_tmp z) rvs_nil)) ?_
 replace hst := hst.pull10.pull10.pull10.pull3.pull10.pull10.pull10.pull10.pull10.pull10.pull10.keep11
 obtain rfl := some_inj hm
 exact ⟨z884, false, z, z, hst⟩
}
}
}
 clear hst
 rintro _ w906 ⟨z901, z902, rfl, rfl, hst⟩
 refine ⟨_, z, ?_⟩
 try dsimp only at hm
 refine ws_next (pend' := []) hst (by kernel_rfl) pk_nil ?_
 refine wsr (.tuple #[I6 z901, .bool z902]) 8 z z z (by kernel_rfl) (fun w hst => z) (wsr (.int .i64 z901) 9 z z z (by kernel_rfl) (fun w hst => z) (wsr (.bool z902) 10 z z z (by kernel_rfl) (fun w hst => z) (wsr (.int .i64 z901) 11 z z z (by kernel_rfl) (fun w hst => z) (wsr (.bool z902) 12 z z z (by kernel_rfl) (fun w hst => z) ?_))))
 refine ws_nil ?_
 intro w hst
 refine tn (wp_seq (wrl (wv (.int .i64 (0:Int)) z z z (wl_nil (tn ?_)))))
 obtain ⟨y917, hm, hx918⟩ := bind_some hm
 refine wp_cut (fun a w => ∃ (z914 : Int) (σ915 : Nat → Value), (lane_State_give_j2 a2 o0 a1 z902 z901) z914 = some r ∧ a = Fr 170 (upd (upd (upd (upd (upd (upd (upd σ915 0 (Pt b821 0)) 5 (Pt b798 0)) 6 (Pt b805 0)) 7 (Pt b814 0)) 8 (.int .i64 z901)) 9 (.bool z902)) 10 (.int .i64 z914)) ∧ St w0 w I [at_lane_State (Pt b821 0) o0, cells b798 [U1 a2.Kind, U6 a2.ID.Session, U6 a2.ID.Seq, U6 a2.Epoch, U6 a2.Index, I6 a2.E, U6 a2.Hold.ID.Session, U6 a2.Hold.ID.Seq, U6 a2.Hold.Epoch, r2_0, r2_1, r2_2, r2_3, r2_4, I6 a2.R.E, U6 a2.R.Epoch, U6 a2.R.Index, r2_5, r2_6, U6 a2.Shards, r2_7, U6 a2.Rule.ID, I6 a2.Rule.From, I6 a2.Rule.To, F6 a2.Rule.Lo, F6 a2.Rule.Hi, U6 a2.Rule.Authority, I6 a2.Rule.Quota, .bool a2.On], cells b805 [Zb, Zu, Zu, Zi, Zu, Zu, Zs, Zs], cells b814 [I6 a2.R.E, U6 a2.Epoch, U6 a1, Zs, Zs]] R) ?_ ?_
 {
 refine wp_seq ?_
 refine wq_regionS hst Tryz.mixed (by kernel_rfl) ?_
 refine wq_run (v := .bool z902) z z (fun w hst => z) ?_
 refine wq_run (v := .bool z902) z z (fun w hst => z) ?_
 refine bsplit z902 (fun hc907 => ?_) (fun hc907 => ?_)
 {
 replace hm := bif_t hc907 hm
 refine wq_run (v := Pt b821 0) ((wanted_eq z z z (cvb hc907)).trans z) z (fun w hst => z) ?_
 refine wq_run (v := Pt b821 0) ((wanted_eq z z z (cvb hc907)).trans z) z (fun w hst => z) ?_
 refine wq_run (v := Pt b821 8) ((wanted_eq z z z (cvb hc907)).trans z) z (fun w hst => x_field z underlying111 z sizeOf109 z) ?_
 refine wq_run (v := v834) ((wanted_eq z z z (cvb hc907)).trans z) z (fun w hst => x_load z isAgg109 (hst.bc0 z)) ?_
 refine wq_run (v := .int .i64 z901) ((wanted_eq z z z (cvb hc907)).trans z) z (fun w hst => z) ?_
 obtain ⟨x908, hx909, hm⟩ := bind_some hm
 obtain ⟨h910, h911, hi912⟩ := geto_some hx909
 refine wq_run (v := .pointer (some (eAddr v834 (z901.toNat * 3 + 0)))) ((wanted_eq z z z (cvb hc907)).trans z) z (fun w hst => x_index z z underlying109 sizeOf189 hst.sv7 h910 h911) ?_
 refine wq_run (v := .pointer (some (eAddr v834 (z901.toNat * 3 + 1)))) ((wanted_eq z z z (cvb hc907)).trans z) z (fun w hst => x_field_e z underlying189 z sizeOf26 z) ?_
 refine wq_run (v := .int .u64 x908.epoch) ((wanted_eq z z z (cvb hc907)).trans z) z (fun w hst => x_load z isAgg26 (hst.ol7 hi912 (by rintro _ rfl; rfl))) ?_
 refine wq_run (v := Pt b798 3) ((wanted_eq z z z (cvb hc907)).trans z) z (fun w hst => x_field z underlying49 z sizeOf26 z) ?_
 refine wq_run (v := .int .u64 a2.Epoch) ((wanted_eq z z z (cvb hc907)).trans z) z (fun w hst => x_load z isAgg26 (hst.bc8 z)) ?_
 refine wq_run (v := .bool (x908.epoch == a2.Epoch)) ((wanted_eq z z z (cvb hc907)).trans z) z (fun w hst => z) ?_
 refine wq_run (v := .bool (x908.epoch == a2.Epoch)) z z (fun w hst => x_pick_t hc907 z z) ?_
 refine wq_nil ?_
 intro w hst
 refine tn ?_
 refine bsplit (x908.epoch == a2.Epoch) (fun hc913 => ?_) (fun hc913 => ?_)
 {
 replace hm := bif_t hc913 hm
 refine wp_ift (cvb hc913) ?_
 refine wrl (wv (Pt b821 0) z z z (wv (Pt b821 0) z z z (wv (Pt b821 8) z z (x_field z underlying111 z sizeOf109 z) (wv (v834) z z (x_load z isAgg109 (hst.bc0 z)) (wv (.int .i64 z901) z z z (wv (.pointer (some (eAddr v834 (z901.toNat * 3 + 0)))) z z (x_index z z underlying109 sizeOf189 hst.sv7 h910 h911) (wv (.pointer (some (eAddr v834 (z901.toNat * 3 + 2)))) z z (x_field_e z underlying189 z sizeOf3 z) (wv (.int .i64 x908.n) z z (x_load z isAgg3 (hst.ol7 hi912 (by rintro _ rfl; rfl))) (wv (.int .i64 x908.n) z z z (wl_nil (tn ?_)))))))))))
 replace hst := hst.pull7.pull7.pull7.pull7.pull7.pull7.pull7.pull7
 replace hst := at_lane_State_close (pv := Pt b821 0) (x := o0) hst z
 replace hst := hst.pull3.pull3.pull3.pull3.keep4
 obtain rfl := some_inj hm
 exact ⟨x908.n, _, hx918, (fu 0 (Pt b821 0) z (fu 5 (Pt b798 0) z (fu 6 (Pt b805 0) z (fu 7 (Pt b814 0) z (fu 8 (.int .i64 z901) z (fu 9 (.bool z902) z (fu 10 (.int .i64 x908.n) z z))))))), hst⟩
}
 {
 replace hm := bif_f hc913 hm
 refine wp_iff (cvb hc913) ?_
 refine wp_skip (tn ?_)
 replace hst := hst.pull7.pull7.pull7.pull7.pull7.pull7.pull7.pull7
 replace hst := at_lane_State_close (pv := Pt b821 0) (x := o0) hst z
 replace hst := hst.pull3.pull3.pull3.pull3.keep4
 obtain rfl := some_inj hm
 exact ⟨(0:Int), _, hx918, (fu 0 (Pt b821 0) z (fu 5 (Pt b798 0) z (fu 6 (Pt b805 0) z (fu 7 (Pt b814 0) z (fu 8 (.int .i64 z901) z (fu 9 (.bool z902) z (fu 10 (.int .i64 (0:Int)) z z))))))), hst⟩
}
}
 {
 replace hm := bif_f hc907 hm
 refine wq_off ((wanted_eq z z z (cvb hc907)).trans z) z ?_
 refine wq_off ((wanted_eq z z z (cvb hc907)).trans z) z ?_
 refine wq_off ((wanted_eq z z z (cvb hc907)).trans z) z ?_
 refine wq_off ((wanted_eq z z z (cvb hc907)).trans z) z ?_
 refine wq_off ((wanted_eq z z z (cvb hc907)).trans z) z ?_
 refine wq_off ((wanted_eq z z z (cvb hc907)).trans z) z ?_
 refine wq_off ((wanted_eq z z z (cvb hc907)).trans z) z ?_
 refine wq_off ((wanted_eq z z z (cvb hc907)).trans z) z ?_
 refine wq_off ((wanted_eq z z z (cvb hc907)).trans z) z ?_
 refine wq_off ((wanted_eq z z z (cvb hc907)).trans z) z ?_
 refine wq_off ((wanted_eq z z z (cvb hc907)).trans z) z ?_
 refine wq_run (v := .bool false) z z (fun w hst => x_pick_f hc907 z z) ?_
 refine wq_nil ?_
 intro w hst
 refine tn ?_
 refine wp_iff z ?_
 refine wp_skip (tn ?_)
 replace hst := hst.pull7.pull7.pull7.pull7.pull7.pull7.pull7.pull7
 replace hst := at_lane_State_close (pv := Pt b821 0) (x := o0) hst z
 replace hst := hst.pull3.pull3.pull3.pull3.keep4
 obtain rfl := some_inj hm
 exact ⟨(0:Int), _, hx918, (fu 0 (Pt b821 0) z (fu 5 (Pt b798 0) z (fu 6 (Pt b805 0) z (fu 7 (Pt b814 0) z (fu 8 (.int .i64 z901) z (fu 9 (.bool z902) z (fu 10 (.int .i64 (0:Int)) z z))))))), hst⟩
}
}
 {
 clear hst
 rintro _ w919 ⟨z914, σ915, hm, rfl, hst⟩
 dsimp only [lane_State_give_j2] at hm
 obtain ⟨y949, hm, hx950⟩ := bind_some hm
 refine wp_cut (fun a w => ∃ (z946 : Int) (σ947 : Nat → Value), (lane_State_give_j3 o0 a2 a1 z902 z901 z914) z946 = some r ∧ a = Fr 170 (upd (upd (upd (upd (upd (upd (upd σ947 0 (Pt b821 0)) 5 (Pt b798 0)) 6 (Pt b805 0)) 7 (Pt b814 0)) 8 (.int .i64 z901)) 9 (.bool z902)) 10 (.int .i64 z914)) ∧ St w0 w I [at_lane_State (Pt b821 0) o0, cells b798 [U1 a2.Kind, U6 a2.ID.Session, U6 a2.ID.Seq, U6 a2.Epoch, U6 a2.Index, I6 a2.E, U6 a2.Hold.ID.Session, U6 a2.Hold.ID.Seq, U6 a2.Hold.Epoch, r2_0, r2_1, r2_2, r2_3, r2_4, I6 a2.R.E, U6 a2.R.Epoch, U6 a2.R.Index, r2_5, r2_6, U6 a2.Shards, r2_7, U6 a2.Rule.ID, I6 a2.Rule.From, I6 a2.Rule.To, F6 a2.Rule.Lo, F6 a2.Rule.Hi, U6 a2.Rule.Authority, I6 a2.Rule.Quota, .bool a2.On], cells b805 [Zb, Zu, Zu, Zi, Zu, Zu, Zs, Zs], cells b814 [I6 z946, U6 a2.Epoch, U6 a1, Zs, Zs]] R) ?_ ?_
 {
 refine wp_block (wp_seq (wrl (wv (Pt b814 0) z z (x_field z underlying33 z sizeOf29 z) (wv (.int .i64 a2.R.E) z z (x_load z isAgg29 (hst.bc3 z)) (wv (.bool (a2.R.E != (0:Int))) z z z (wv (.bool (a2.R.E != (0:Int))) z z z (wl_nil (tn ?_))))))))
 refine bsplit (a2.R.E != (0:Int)) (fun hc920 => ?_) (fun hc920 => ?_)
 {
 replace hm := bif_t hc920 hm
 refine wp_ift (cvb hc920) ?_
 refine wp_skip (blk_n (tn ?_))
 replace hst := hst.pull3.pull3.pull3.pull3.keep4
 obtain rfl := some_inj hm
 exact ⟨a2.R.E, _, hx950, (fu 0 (Pt b821 0) z (fu 5 (Pt b798 0) z (fu 6 (Pt b805 0) z (fu 7 (Pt b814 0) z (fu 8 (.int .i64 z901) z (fu 9 (.bool z902) z (fu 10 (.int .i64 z914) z z))))))), hst⟩
}
 {
 replace hm := bif_f hc920 hm
 refine wp_iff (cvb hc920) ?_
 refine wp_seq ?_
 obtain ⟨b921, v922, v924, v926, v928, v930, v932, v934, e936, hst'⟩ := at_lane_State_open hst
 clear hst
 have e936 := ptr_inj e936
 subst e936
 have hst := hst'
 clear hst'
 refine wq_regionS hst Tryz.mixed (by kernel_rfl) ?_
 refine wq_run (v := Pt b798 3) z z (fun w hst => x_field z underlying49 z sizeOf26 z) ?_
 refine wq_run (v := .int .u64 a2.Epoch) z z (fun w hst => x_load z isAgg26 (hst.bc8 z)) ?_
 refine wq_run (v := Pt b821 0) z z (fun w hst => z) ?_
 refine wq_run (v := Pt b821 0) z z (fun w hst => z) ?_
 refine wq_run (v := Pt b821 1) z z (fun w hst => x_field z underlying111 z sizeOf26 z) ?_
 refine wq_run (v := .int .u64 o0.epoch) z z (fun w hst => x_load z isAgg26 (hst.bc0 z)) ?_
 refine wq_run (v := .bool (a2.Epoch != o0.epoch)) z z (fun w hst => z) ?_
 refine wq_run (v := .bool (a2.Epoch != o0.epoch)) z z (fun w hst => z) ?_
 refine wq_nil ?_
 intro w hst
 refine tn ?_
 refine bsplit (a2.Epoch != o0.epoch) (fun hc937 => ?_) (fun hc937 => ?_)
 {
 replace hm := bif_t hc937 hm
 refine wp_ift (cvb hc937) ?_
 refine wrl (wv (Pt b814 0) z z (x_field z underlying33 z sizeOf29 z) ?_)
 replace hst := hst.pull10
 obtain ⟨w938, hr939, hst⟩ := hst.by_ [I6 (9:Int), U6 a2.Epoch, U6 a1, Zs, Zs] 0 (.int .i64 (9:Int)) sizeOf29 z (oC z oN) (by kernel_rfl)
 refine wl_unit z z (x_unit hr939) ?_
 refine wl_nil (blk_n (tn ?_))
 replace hst := hst.pull8.pull8.pull8.pull8.pull8.pull8.pull8.pull8
 replace hst := at_lane_State_close (pv := Pt b821 0) (x := o0) hst z
 replace hst := hst.pull1.pull3.pull3.pull3.keep4
 obtain rfl := some_inj hm
 exact ⟨(9:Int), _, hx950, (fu 0 (Pt b821 0) z (fu 5 (Pt b798 0) z (fu 6 (Pt b805 0) z (fu 7 (Pt b814 0) z (fu 8 (.int .i64 z901) z (fu 9 (.bool z902) z (fu 10 (.int .i64 z914) z z))))))), hst⟩
}
 {
 replace hm := bif_f hc937 hm
 refine wp_iff (cvb hc937) ?_
 refine wp_seq (wrl (wv (Pt b798 13) z z (x_field z underlying49 z sizeOf42 z) (wv (r2_4) z z (x_load z isAgg42 (hst.bc8 z)) (wv (.int .i64 ((a2.Writes).length : Int)) z z (x_len z underlying42 (rd_sliceV f2_4)) (wv (.bool (((a2.Writes).length : Int) != (1:Int))) z z z (wv (.bool (((a2.Writes).length : Int) != (1:Int))) z z z (wl_nil (tn ?_))))))))
 refine bsplit (((a2.Writes).length : Int) != (1:Int)) (fun hc940 => ?_) (fun hc940 => ?_)
 {
 replace hm := bif_t hc940 hm
 refine wp_ift (cvb hc940) ?_
 refine wrl (wv (Pt b814 0) z z (x_field z underlying33 z sizeOf29 z) ?_)
 replace hst := hst.pull10
 obtain ⟨w941, hr942, hst⟩ := hst.by_ [I6 (1:Int), U6 a2.Epoch, U6 a1, Zs, Zs] 0 (.int .i64 (1:Int)) sizeOf29 z (oC z oN) (by kernel_rfl)
 refine wl_unit z z (x_unit hr942) ?_
 refine wl_nil (blk_n (tn ?_))
 replace hst := hst.pull8.pull8.pull8.pull8.pull8.pull8.pull8.pull8
 replace hst := at_lane_State_close (pv := Pt b821 0) (x := o0) hst z
 replace hst := hst.pull1.pull3.pull3.pull3.keep4
 obtain rfl := some_inj hm
 exact ⟨(1:Int), _, hx950, (fu 0 (Pt b821 0) z (fu 5 (Pt b798 0) z (fu 6 (Pt b805 0) z (fu 7 (Pt b814 0) z (fu 8 (.int .i64 z901) z (fu 9 (.bool z902) z (fu 10 (.int .i64 z914) z z))))))), hst⟩
}
 {
 replace hm := bif_f hc940 hm
 refine wp_iff (cvb hc940) ?_
 refine wp_seq (wrl (wv (.int .i64 z914) z z z (wv (Pt b798 21) z z (x_field z underlying49 z sizeOf39 z) (wv (Pt b798 27) z z (x_field z underlying39 z sizeOf3 z) (wv (.int .i64 a2.Rule.Quota) z z (x_load z isAgg3 (hst.bc8 z)) (wv (.bool (decide (z914 ≥ a2.Rule.Quota))) z z z (wv (.bool (decide (z914 ≥ a2.Rule.Quota))) z z z (wl_nil (tn ?_)))))))))
 refine bsplit (decide (z914 ≥ a2.Rule.Quota)) (fun hc943 => ?_) (fun hc943 => ?_)
 {
 replace hm := bif_t hc943 hm
 refine wp_ift (cvb hc943) ?_
 refine wrl (wv (Pt b814 0) z z (x_field z underlying33 z sizeOf29 z) ?_)
 replace hst := hst.pull10
 obtain ⟨w944, hr945, hst⟩ := hst.by_ [I6 (13:Int), U6 a2.Epoch, U6 a1, Zs, Zs] 0 (.int .i64 (13:Int)) sizeOf29 z (oC z oN) (by kernel_rfl)
 refine wl_unit z z (x_unit hr945) ?_
 refine wl_nil (blk_n (tn ?_))
 replace hst := hst.pull8.pull8.pull8.pull8.pull8.pull8.pull8.pull8
 replace hst := at_lane_State_close (pv := Pt b821 0) (x := o0) hst z
 replace hst := hst.pull1.pull3.pull3.pull3.keep4
 obtain rfl := some_inj hm
 exact ⟨(13:Int), _, hx950, (fu 0 (Pt b821 0) z (fu 5 (Pt b798 0) z (fu 6 (Pt b805 0) z (fu 7 (Pt b814 0) z (fu 8 (.int .i64 z901) z (fu 9 (.bool z902) z (fu 10 (.int .i64 z914) z z))))))), hst⟩
}
 {
 replace hm := bif_f hc943 hm
 refine wp_iff (cvb hc943) ?_
 refine wp_skip (blk_n (tn ?_))
 replace hst := hst.pull7.pull7.pull7.pull7.pull7.pull7.pull7.pull7
 replace hst := at_lane_State_close (pv := Pt b821 0) (x := o0) hst z
 replace hst := hst.pull3.pull3.pull3.pull3.keep4
 obtain rfl := some_inj hm
 exact ⟨a2.R.E, _, hx950, (fu 0 (Pt b821 0) z (fu 5 (Pt b798 0) z (fu 6 (Pt b805 0) z (fu 7 (Pt b814 0) z (fu 8 (.int .i64 z901) z (fu 9 (.bool z902) z (fu 10 (.int .i64 z914) z z))))))), hst⟩
}
}
}
}
}
 {
 clear hst
 rintro _ w951 ⟨z946, σ947, hm, rfl, hst⟩
 dsimp only [lane_State_give_j3] at hm
 refine wp_seq (wp_seq ?_)
 obtain ⟨b952, v953, v955, v957, v959, v961, v963, v965, e967, hst'⟩ := at_lane_State_open hst
 clear hst
 have e967 := ptr_inj e967
 subst e967
 have hst := hst'
 clear hst'
 refine wp_region_St hst 13 [0, 1, 2, 3, 4, 5, 6, 7, 8, 9, 10, 11, 12] [0, 1, 3, 7, 0, 16, 48, 0, 128, 384, 0, 2047, 4095] [] z (by kernel_rfl) (by kernel_rfl) Tryz.mixed (by kernel_rfl) ?_
 refine wsr (Pt b821 0) 0 z z z (by kernel_rfl) (fun w hst => z) (wsr (Pt b821 0) 1 z z z (by kernel_rfl) (fun w hst => z) (wsr (Pt b821 4) 2 z z z (by kernel_rfl) (fun w hst => x_field z underlying111 z sizeOf105 z) (wsr (v957) 3 z z z (by kernel_rfl) (fun w hst => x_load z isAgg105 (hst.bc0 z)) (wsr (Pt b798 1) 4 z z z (by kernel_rfl) (fun w hst => x_field z underlying49 z sizeOf28 z) (wsr (Pt b798 1) 5 z z z (by kernel_rfl) (fun w hst => x_field z underlying28 z sizeOf26 z) (wsr (.int .u64 a2.ID.Session) 6 z z z (by kernel_rfl) (fun w hst => x_load z isAgg26 (hst.bc8 z)) (wsr (Pt b798 1) 7 z z z (by kernel_rfl) (fun w hst => x_field z underlying49 z sizeOf28 z) (wsr (Pt b798 2) 8 z z z (by kernel_rfl) (fun w hst => x_field z underlying28 z sizeOf26 z) (wsr (.int .u64 a2.ID.Seq) 9 z z z (by kernel_rfl) (fun w hst => x_load z isAgg26 (hst.bc8 z)) (wsr (.agg #[I6 z946, U6 a2.Epoch, U6 a1, Zs, Zs]) 10 z z z (by kernel_rfl) (fun w hst => x_loadN (cs := [I6 z946, U6 a2.Epoch, U6 a1, Zs, Zs]) z isAgg33 sizeOf33 (hst.bcs10 0 z)) ?_))))))))))
 refine ws_e1 11 (by kernel_rfl) ?_
 refine nxe [12] (by kernel_rfl) z z ?_
 clear hst
 intro w hst
 have f968 : Ro ty_api_Got I (.slice none 0 0) [] := ro_nil
 have f969 : Ro (tySl ty_api_Pair) I (.slice none 0 0) [] := ro_nil
 replace hst := hst.pull3
 obtain ⟨t970, ht971, hm⟩ := bind_some hm
 refine wec call124 [v957, U6 a2.ID.Session, U6 a2.ID.Seq, .agg #[I6 z946, U6 a2.Epoch, U6 a1, Zs, Zs]] z z ?_
 refine (session_Table_Put_ref (a3 := ({ E := z946, Epoch := a2.Epoch, Index := a1, Gots := [], Scans := [] } : api_Reply)) f968 f969 hst.to1 ht971).mono ?_
 rintro _ w972 ⟨rfl, hst⟩
 refine ⟨_, z, ?_⟩
 replace hst := hst.of1
 refine ws_next (pend' := []) hst (by kernel_rfl) pk_nil ?_
 refine wsr (.bool (t970.1 != (0:Int))) 12 z z z (by kernel_rfl) (fun w hst => z) ?_
 refine ws_nil ?_
 intro w hst
 refine tn ?_
 refine bsplit (t970.1 != (0:Int)) (fun hc975 => ?_) (fun hc975 => ?_)
 {
 replace hm := bif_t hc975 hm
 refine wp_ift (cvb hc975) ?_
 refine wp_seq (wrl (wv (Pt b821 0) z z z (wv (Pt b798 1) z z (x_field z underlying49 z sizeOf28 z) (wv (.agg #[U6 a2.ID.Session, U6 a2.ID.Seq]) z z (x_loadN (cs := [U6 a2.ID.Session, U6 a2.ID.Seq]) z isAgg28 sizeOf28 (hst.bcs8 1 z)) ?_))))
 replace hst := hst.pull7.pull7.pull7.pull7.pull4.pull7.pull7.pull7
 replace hst := at_lane_State_close (pv := Pt b821 0) (x := ({ wide := o0.wide, epoch := o0.epoch, store := o0.store, locks := o0.locks, last := t970.2, book := o0.book, open_ := o0.open_, out := o0.out, used := o0.used } : lane_State)) hst z
 replace hst := objO_some hst
 obtain ⟨t976, ht977, hm⟩ := bind_some hm
 refine wc call125 [Pt b821 0, .agg #[U6 a2.ID.Session, U6 a2.ID.Seq]] z z z ?_
 refine (lane_State_late_ref hst.to1 ht977).mono ?_
 rintro _ w978 ⟨v981, v983, rfl, hst⟩
 refine ⟨_, z, ?_⟩
 replace hst := hst.of3.pull2
 replace hst := objO_get hst
 replace hst := hst.pull4
 obtain ⟨w985, hr986, hst⟩ := hst.bx [U1 t976.Kind, U6 t976.ID.Session, U6 t976.ID.Seq, I6 t976.R.E, U6 t976.R.Epoch, U6 t976.R.Index, v981, v983] sizeOf35 z (oC z (oC z (oC z (oC z (oC z (oC z (oC (one_of_sliceV hst.sv2) (oC (one_of_sliceV hst.sv3) oN)))))))) (by kernel_rfl)
 refine wl_unit z z (x_unit hr986) ?_
 refine wl_nil (tn (wp_ret (then_r ?_)))
 replace hst := hst.pull2
 obtain ⟨I987, hI988, f989, hst⟩ := hst.own_fix
 replace f2_0 := f2_0.mono (rd_le hI988)
 replace f2_1 := f2_1.mono (rd_le hI988)
 replace f2_2 := f2_2.mono (rd_le hI988)
 replace f2_3 := f2_3.mono (rd_le hI988)
 replace f2_4 := f2_4.mono (rd_le hI988)
 replace f2_5 := f2_5.mono (rd_le hI988)
 replace f2_6 := f2_6.mono (rd_le hI988)
 replace f2_7 := f2_7.mono (rd_le hI988)
 replace f968 := f968.mono (ro_le hI988)
 replace f969 := f969.mono (ro_le hI988)
 replace hI0 := hI0.trans hI988
 replace hst := hst.pull2
 obtain ⟨I990, hI991, f992, hst⟩ := hst.own_fix
 replace f2_0 := f2_0.mono (rd_le hI991)
 replace f2_1 := f2_1.mono (rd_le hI991)
 replace f2_2 := f2_2.mono (rd_le hI991)
 replace f2_3 := f2_3.mono (rd_le hI991)
 replace f2_4 := f2_4.mono (rd_le hI991)
 replace f2_5 := f2_5.mono (rd_le hI991)
 replace f2_6 := f2_6.mono (rd_le hI991)
 replace f2_7 := f2_7.mono (rd_le hI991)
 replace f968 := f968.mono (ro_le hI991)
 replace f969 := f969.mono (ro_le hI991)
 replace f989 := f989.mono (ro_le hI991)
 replace hI0 := hI0.trans hI991
 replace hst := hst.pull1
 replace hst := objO_some hst
 obtain rfl := some_inj hm
 refine post_ret (vs := [.agg #[U1 t976.Kind, U6 t976.ID.Session, U6 t976.ID.Seq, I6 t976.R.E, U6 t976.R.Epoch, U6 t976.R.Index, v981, v983]]) results55 (rvs_cons (rv_cell (cs := [U1 t976.Kind, U6 t976.ID.Session, U6 t976.ID.Seq, I6 t976.R.E, U6 t976.R.Epoch, U6 t976.R.Index, v981, v983]) z isAgg35 sizeOf35 (hst.bcs1 0 z)) rvs_nil) ?_
 exact ⟨_, v981, v983, z, hI0, f989, f992, hst.keep1⟩
}
 {
 replace hm := bif_f hc975 hm
 refine wp_iff (cvb hc975) ?_
 refine wp_skip (tn ?_)
 obtain ⟨y1236, hm, hx1237⟩ := bind_some hm
 refine wp_cut (fun a w => ∃ (I1233 : HL) (z1232 : lane_State) (σ1234 : Nat → Value), (lane_State_give_j4 a2 z946 a1) z1232 = some r ∧ a = Fr 170 (upd (upd (upd σ1234 5 (Pt b798 0)) 6 (Pt b805 0)) 7 (Pt b814 0)) ∧ I.le I1233 ∧ St w0 w I1233 [cells b798 [U1 a2.Kind, U6 a2.ID.Session, U6 a2.ID.Seq, U6 a2.Epoch, U6 a2.Index, I6 a2.E, U6 a2.Hold.ID.Session, U6 a2.Hold.ID.Seq, U6 a2.Hold.Epoch, r2_0, r2_1, r2_2, r2_3, r2_4, I6 a2.R.E, U6 a2.R.Epoch, U6 a2.R.Index, r2_5, r2_6, U6 a2.Shards, r2_7, U6 a2.Rule.ID, I6 a2.Rule.From, I6 a2.Rule.To, F6 a2.Rule.Lo, F6 a2.Rule.Hi, U6 a2.Rule.Authority, I6 a2.Rule.Quota, .bool a2.On], cells b805 [Zb, Zu, Zu, Zi, Zu, Zu, Zs, Zs], cells b814 [I6 z946, U6 a2.Epoch, U6 a1, Zs, Zs], at_lane_State (Pt b821 0) z1232] R) ?_ ?_
 {
 have hL1238 := HL.le.refl I
 refine wp_seq (wrl (wv (Pt b814 0) z z (x_field z underlying33 z sizeOf29 z) (wv (.int .i64 z946) z z (x_load z isAgg29 (hst.bc10 z)) (wv (.bool (z946 == (0:Int))) z z z (wl_nil (tn ?_))))))
 refine bsplit (z946 == (0:Int)) (fun hc993 => ?_) (fun hc993 => ?_)
 {
 replace hm := bif_t hc993 hm
 refine wp_ift (cvb hc993) ?_
 obtain ⟨y1012, hm, hx1013⟩ := bind_some hm
 refine wp_cut (fun a w => ∃ (z1009 : lane_State) (σ1010 : Nat → Value), (lane_State_give_j5 z901 a2 z914) z1009 = some y1236 ∧ a = Fr 170 (upd (upd (upd (upd (upd (upd σ1010 0 (Pt b821 0)) 5 (Pt b798 0)) 6 (Pt b805 0)) 7 (Pt b814 0)) 8 (.int .i64 z901)) 10 (.int .i64 z914)) ∧ St w0 w I [at_lane_State (Pt b821 0) z1009, cells b798 [U1 a2.Kind, U6 a2.ID.Session, U6 a2.ID.Seq, U6 a2.Epoch, U6 a2.Index, I6 a2.E, U6 a2.Hold.ID.Session, U6 a2.Hold.ID.Seq, U6 a2.Hold.Epoch, r2_0, r2_1, r2_2, r2_3, r2_4, I6 a2.R.E, U6 a2.R.Epoch, U6 a2.R.Index, r2_5, r2_6, U6 a2.Shards, r2_7, U6 a2.Rule.ID, I6 a2.Rule.From, I6 a2.Rule.To, F6 a2.Rule.Lo, F6 a2.Rule.Hi, U6 a2.Rule.Authority, I6 a2.Rule.Quota, .bool a2.On], cells b805 [Zb, Zu, Zu, Zi, Zu, Zu, Zs, Zs], cells b814 [I6 z946, U6 a2.Epoch, U6 a1, Zs, Zs]] R) ?_ ?_
 {
 refine wp_seq (wrl (wv (.bool z902) z z z (wv (.bool (!z902)) z z z (wl_nil (tn ?_)))))
 refine bsplit (!z902) (fun hc994 => ?_) (fun hc994 => ?_)
 {
 replace hm := bif_t hc994 hm
 refine wp_ift (cvb hc994) ?_
 refine wp_region_St hst 15 [0, 1, 2, 3, 4, 5, 6, 7, 8, 9, 10, 11, 12, 13, 14] [0, 0, 2, 6, 14, 0, 0, 64, 192, 448, 960, 2046, 4095, 8191, 16383] [] z (by kernel_rfl) (by kernel_rfl) Tryz.mixed (by kernel_rfl) ?_
 refine wsr (Pt b821 0) 0 z z z (by kernel_rfl) (fun w hst => z) (wsr (Pt b821 0) 1 z z z (by kernel_rfl) (fun w hst => z) (wsr (Pt b821 0) 2 z z z (by kernel_rfl) (fun w hst => z) (wsr (Pt b821 8) 3 z z z (by kernel_rfl) (fun w hst => x_field z underlying111 z sizeOf109 z) (wsr (v965) 4 z z z (by kernel_rfl) (fun w hst => x_load z isAgg109 (hst.bc1 z)) (wsr (.int .i64 z901) 5 z z z (by kernel_rfl) (fun w hst => z) (wsr (Pt b798 21) 6 z z z (by kernel_rfl) (fun w hst => x_field z underlying49 z sizeOf39 z) (wsr (Pt b798 21) 7 z z z (by kernel_rfl) (fun w hst => x_field z underlying39 z sizeOf26 z) (wsr (.int .u64 a2.Rule.ID) 8 z z z (by kernel_rfl) (fun w hst => x_load z isAgg26 (hst.bc8 z)) (wsr (.agg #[U6 a2.Rule.ID, Zu, Zi]) 9 z z z (by kernel_rfl) (fun w hst => by kernel_rfl) ?_)))))))))
 refine ws_e1 10 (by kernel_rfl) ?_
 refine nxe [11, 12, 13, 14] (by kernel_rfl) z z ?_
 clear hst
 intro w hst
 obtain ⟨b995, w996, ew997, eb998, hst⟩ := hst.lits (E := ty_lane_used) (xs := [({ rule := a2.Rule.ID, epoch := (0:Int), n := (0:Int) } : lane_used)]) [[U6 a2.Rule.ID, Zu, Zi]] 189 1 z (Reps.cons z Reps.nil)
 refine we_run (v := (.slice (some ⟨b995, 0, none⟩) 1 1)) (w' := w996) z (x_als (by kernel_rfl) ew997 eb998) ?_
 refine ws_next (pend' := [(5, I6 z901), (4, v965), (3, Pt b821 8), (2, Pt b821 0), (1, Pt b821 0), (0, Pt b821 0)]) hst (by kernel_rfl) (pkr z z (fun w hst => z) (pkr z z (fun w hst => x_load z isAgg109 (hst.bc2 z)) (pkr z z (fun w hst => x_field z underlying111 z sizeOf109 z) (pkr z z (fun w hst => z) (pkr z z (fun w hst => z) (pkr z z (fun w hst => z) pk_nil)))))) ?_
 refine ws_e1 11 (by kernel_rfl) ?_
 refine nxe [12, 13, 14] (by kernel_rfl) z z ?_
 clear hst
 intro w hst
 replace hst := hst.pull8
 obtain ⟨t1000, ht1001, hm⟩ := bind_some hm
 refine wec call134 [v965, I6 z901, (.slice (some ⟨b995, 0, none⟩) 1 1)] z z ?_
 refine (slices_Insert_lane_used_lane_used_ref hst.to2 ht1001).mono ?_
 rintro _ w1002 ⟨v1005, rfl, hst⟩
 refine ⟨_, z, ?_⟩
 replace hst := hst.of1
 refine ws_next (pend' := [(0, Pt b821 0)]) hst (by kernel_rfl) (pkr z z (fun w hst => z) pk_nil) ?_
 refine wsr (Pt b821 0) 12 z z z (by kernel_rfl) (fun w hst => z) (wsr (Pt b821 8) 13 z z z (by kernel_rfl) (fun w hst => x_field z underlying111 z sizeOf109 z) ?_)
 refine ws_e1 14 (by kernel_rfl) ?_
 refine nxe [] (by kernel_rfl) z z ?_
 clear hst
 intro w hst
 replace hst := hst.pull2
 obtain ⟨w1007, hr1008, hst⟩ := hst.boxStore1 (P := prog) (t := 109) (cs' := [I6 o0.wide, U6 o0.epoch, v953, v955, v957, v959, v961, v963, v1005]) 8 v1005 (one_of_sliceV hst.sv1) sizeOf109 z z
 refine we_unit z (x_unit hr1008) ?_
 refine ws_next (pend' := []) hst (by kernel_rfl) pk_nil ?_
 refine ws_nil ?_
 intro w hst
 refine tn ?_
 replace hst := hst.pull1.pull7.pull7.pull7.pull5.pull7.pull7.pull7
 replace hst := at_lane_State_close (pv := Pt b821 0) (x := ({ wide := o0.wide, epoch := o0.epoch, store := o0.store, locks := o0.locks, last := t970.2, book := o0.book, open_ := o0.open_, out := o0.out, used := t1000 } : lane_State)) hst z
 replace hst := hst.pull3.pull3.pull3.pull3.keep4
 obtain rfl := some_inj hm
 exact ⟨({ wide := o0.wide, epoch := o0.epoch, store := o0.store, locks := o0.locks, last := t970.2, book := o0.book, open_ := o0.open_, out := o0.out, used := t1000 } : lane_State), _, hx1013, (fu 0 (Pt b821 0) z (fu 5 (Pt b798 0) z (fu 6 (Pt b805 0) z (fu 7 (Pt b814 0) z (fu 8 (.int .i64 z901) z (fu 10 (.int .i64 z914) z z)))))), hst⟩
}
 {
 replace hm := bif_f hc994 hm
 refine wp_iff (cvb hc994) ?_
 refine wp_skip (tn ?_)
 replace hst := hst.pull7.pull7.pull7.pull7.pull4.pull7.pull7.pull7
 replace hst := at_lane_State_close (pv := Pt b821 0) (x := ({ wide := o0.wide, epoch := o0.epoch, store := o0.store, locks := o0.locks, last := t970.2, book := o0.book, open_ := o0.open_, out := o0.out, used := o0.used } : lane_State)) hst z
 replace hst := hst.pull3.pull3.pull3.pull3.keep4
 obtain rfl := some_inj hm
 exact ⟨({ wide := o0.wide, epoch := o0.epoch, store := o0.store, locks := o0.locks, last := t970.2, book := o0.book, open_ := o0.open_, out := o0.out, used := o0.used } : lane_State), _, hx1013, (fu 0 (Pt b821 0) z (fu 5 (Pt b798 0) z (fu 6 (Pt b805 0) z (fu 7 (Pt b814 0) z (fu 8 (.int .i64 z901) z (fu 10 (.int .i64 z914) z z)))))), hst⟩
}
}
 {
 clear hst
 rintro _ w1014 ⟨z1009, σ1010, hm, rfl, hst⟩
 dsimp only [lane_State_give_j5] at hm
 refine wp_seq ?_
 obtain ⟨b1015, v1016, v1018, v1020, v1022, v1024, v1026, v1028, e1030, hst'⟩ := at_lane_State_open hst
 clear hst
 have e1030 := ptr_inj e1030
 subst e1030
 have hst := hst'
 clear hst'
 refine wp_region_St hst 20 [0, 1, 2, 3, 4, 5, 6, 7, 8, 9, 10, 11, 12, 13, 14, 15, 16, 17, 18, 19] [0, 1, 3, 7, 0, 0, 32, 96, 224, 0, 0, 1024, 0, 4096, 3583, 19967, 52735, 131071, 262143, 524287] [] z (by kernel_rfl) (by kernel_rfl) Tryz.mixed (by kernel_rfl) ?_
 refine wsr (Pt b821 0) 0 z z z (by kernel_rfl) (fun w hst => z) (wsr (Pt b821 0) 1 z z z (by kernel_rfl) (fun w hst => z) (wsr (Pt b821 8) 2 z z z (by kernel_rfl) (fun w hst => x_field z underlying111 z sizeOf109 z) (wsr (v1028) 3 z z z (by kernel_rfl) (fun w hst => x_load z isAgg109 (hst.bc0 z)) (wsr (.int .i64 z901) 4 z z z (by kernel_rfl) (fun w hst => z) (wsr (Pt b821 0) 5 z z z (by kernel_rfl) (fun w hst => z) (wsr (Pt b821 0) 6 z z z (by kernel_rfl) (fun w hst => z) (wsr (Pt b821 8) 7 z z z (by kernel_rfl) (fun w hst => x_field z underlying111 z sizeOf109 z) (wsr (v1028) 8 z z z (by kernel_rfl) (fun w hst => x_load z isAgg109 (hst.bc0 z)) (wsr (.int .i64 z901) 9 z z z (by kernel_rfl) (fun w hst => z) (wsr (Pt b798 3) 10 z z z (by kernel_rfl) (fun w hst => x_field z underlying49 z sizeOf26 z) (wsr (.int .u64 a2.Epoch) 11 z z z (by kernel_rfl) (fun w hst => x_load z isAgg26 (hst.bc8 z)) (wsr (.int .i64 z914) 12 z z z (by kernel_rfl) (fun w hst => z) ?_))))))))))))
 refine wsr (.int .i64 (i64.wrap (z914 + (1:Int)))) 13 z z z (by kernel_rfl) (fun w hst => z) ?_
 obtain ⟨x1031, hx1032, hm⟩ := bind_some hm
 obtain ⟨h1033, h1034, hi1035⟩ := geto_some hx1032
 refine wsr (.pointer (some (eAddr v1028 (z901.toNat * 3 + 0)))) 14 z z z (by kernel_rfl) (fun w hst => x_index z z underlying109 sizeOf189 hst.sv7 h1033 h1034) (wsr (.pointer (some (eAddr v1028 (z901.toNat * 3 + 1)))) 15 z z z (by kernel_rfl) (fun w hst => x_field_e z underlying189 z sizeOf26 z) ?_)
 refine ws_e1 16 (by kernel_rfl) ?_
 refine nxe [17, 18, 19] (by kernel_rfl) z z ?_
 clear hst
 intro w hst
 replace hst := hst.pull7
 obtain ⟨w1036, hr1037, hst⟩ := hst.own_store (P := prog) (t := 26) (y := ({ rule := x1031.rule, epoch := a2.Epoch, n := x1031.n } : lane_used)) hi1035 1 (.int .u64 a2.Epoch) sizeOf26 (Nat.le_of_ble_eq_true z) (oC z oN) (by rintro _ rfl; rfl)
 have hi1038 := set_get hi1035 ({ rule := x1031.rule, epoch := a2.Epoch, n := x1031.n } : lane_used)
 have h1039 := set_lt h1034 z901.toNat ({ rule := x1031.rule, epoch := a2.Epoch, n := x1031.n } : lane_used)
 refine we_unit z (x_unit hr1037) ?_
 refine ws_next (pend' := [(13, I6 (i64.wrap (z914 + (1:Int)))), (12, I6 z914), (9, I6 z901)]) hst (by kernel_rfl) (pkr z z (fun w hst => z) (pkr z z (fun w hst => z) (pkr z z (fun w hst => z) pk_nil))) ?_
 refine wsr (.pointer (some (eAddr v1028 (z901.toNat * 3 + 0)))) 17 z z z (by kernel_rfl) (fun w hst => x_index z z underlying109 sizeOf189 hst.sv0 h1033 h1039) (wsr (.pointer (some (eAddr v1028 (z901.toNat * 3 + 2)))) 18 z z z (by kernel_rfl) (fun w hst => x_field_e z underlying189 z sizeOf3 z) ?_)
 refine ws_e1 19 (by kernel_rfl) ?_
 refine nxe [] (by kernel_rfl) z z ?_
 clear hst
 intro w hst
 obtain ⟨w1040, hr1041, hst⟩ := hst.own_store (P := prog) (t := 3) (y := ({ rule := ({ rule := x1031.rule, epoch := a2.Epoch, n := x1031.n } : lane_used).rule, epoch := ({ rule := x1031.rule, epoch := a2.Epoch, n := x1031.n } : lane_used).epoch, n := (i64.wrap (z914 + (1:Int))) } : lane_used)) hi1038 2 (.int .i64 (i64.wrap (z914 + (1:Int)))) sizeOf3 (Nat.le_of_ble_eq_true z) (oC z oN) (by rintro _ rfl; rfl)
 have hi1042 := set_get hi1038 ({ rule := ({ rule := x1031.rule, epoch := a2.Epoch, n := x1031.n } : lane_used).rule, epoch := ({ rule := x1031.rule, epoch := a2.Epoch, n := x1031.n } : lane_used).epoch, n := (i64.wrap (z914 + (1:Int))) } : lane_used)
 have h1043 := set_lt h1039 z901.toNat ({ rule := ({ rule := x1031.rule, epoch := a2.Epoch, n := x1031.n } : lane_used).rule, epoch := ({ rule := x1031.rule, epoch := a2.Epoch, n := x1031.n } : lane_used).epoch, n := (i64.wrap (z914 + (1:Int))) } : lane_used)
 refine we_unit z (x_unit hr1041) ?_
 refine ws_next (pend' := []) hst (by kernel_rfl) pk_nil ?_
 refine ws_nil ?_
 intro w hst
 refine tn ?_
 refine wp_region_St hst 36 [0, 1, 2, 3, 4, 5, 6, 7, 8, 9, 10, 11, 12, 13, 14, 15, 16, 17, 18, 19, 20, 21, 22, 23, 24, 25, 26, 27, 28, 29, 30, 31, 32, 33, 34, 35] [0, 0, 2, 6, 14, 0, 32, 96, 0, 0, 512, 1536, 3840, 7936, 16128, 32512, 0, 65536, 196608, 0, 524288, 0, 2097152, 6291456, 14680064, 0, 33554432, 100663296, 234881024, 534781696, 1073741792, 2147483616, 4294967294, 8589934591, 17179869183, 34359738367] [] z (by kernel_rfl) (by kernel_rfl) Tryz.mixed (by kernel_rfl) ?_
 refine wsr (Pt b821 0) 0 z z z (by kernel_rfl) (fun w hst => z) (wsr (Pt b821 0) 1 z z z (by kernel_rfl) (fun w hst => z) (wsr (Pt b821 0) 2 z z z (by kernel_rfl) (fun w hst => z) (wsr (Pt b821 7) 3 z z z (by kernel_rfl) (fun w hst => x_field z underlying111 z sizeOf50 z) (wsr (v1026) 4 z z z (by kernel_rfl) (fun w hst => x_load z isAgg50 (hst.bc1 z)) (wsr (Pt b798 21) 5 z z z (by kernel_rfl) (fun w hst => x_field z underlying49 z sizeOf39 z) (wsr (Pt b798 23) 6 z z z (by kernel_rfl) (fun w hst => x_field z underlying39 z sizeOf3 z) (wsr (.int .i64 a2.Rule.To) 7 z z z (by kernel_rfl) (fun w hst => x_load z isAgg3 (hst.bc8 z)) (wsr (Pt b821 0) 8 z z z (by kernel_rfl) (fun w hst => z) (wsr (Pt b798 21) 9 z z z (by kernel_rfl) (fun w hst => x_field z underlying49 z sizeOf39 z) (wsr (Pt b798 23) 10 z z z (by kernel_rfl) (fun w hst => x_field z underlying39 z sizeOf3 z) (wsr (.int .i64 a2.Rule.To) 11 z z z (by kernel_rfl) (fun w hst => x_load z isAgg3 (hst.bc8 z)) (wsr (Pt b798 21) 16 z z z (by kernel_rfl) (fun w hst => x_field z underlying49 z sizeOf39 z) ?_))))))))))))
 refine wsr (Pt b798 21) 17 z z z (by kernel_rfl) (fun w hst => x_field z underlying39 z sizeOf26 z) (wsr (.int .u64 a2.Rule.ID) 18 z z z (by kernel_rfl) (fun w hst => x_load z isAgg26 (hst.bc8 z)) (wsr (Pt b798 3) 19 z z z (by kernel_rfl) (fun w hst => x_field z underlying49 z sizeOf26 z) (wsr (.int .u64 a2.Epoch) 20 z z z (by kernel_rfl) (fun w hst => x_load z isAgg26 (hst.bc8 z)) (wsr (Pt b798 13) 21 z z z (by kernel_rfl) (fun w hst => x_field z underlying49 z sizeOf42 z) (wsr (r2_4) 22 z z z (by kernel_rfl) (fun w hst => x_load z isAgg42 (hst.bc8 z)) ?_)))))
 obtain ⟨x1044, hx1045, hm⟩ := bind_some hm
 obtain ⟨h1046, h1047, hi1048⟩ := geto_some hx1045
 refine wsr (.pointer (some (eAddr r2_4 ((0:Int).toNat * 3 + 0)))) 23 z z z (by kernel_rfl) (fun w hst => x_index z z underlying42 sizeOf41 (rd_sliceV f2_4) h1046 h1047) ?_
 obtain ⟨cs1049, hr1050, hc1051⟩ := Rd.getF f2_4 hi1048
 obtain ⟨v1052, rfl, f1053, -⟩ := hr1050
 refine wsr (.agg #[F6 x1044.At, .bool x1044.Del, v1052]) 24 z z z (by kernel_rfl) (fun w hst => x_loadN (cs := [F6 x1044.At, .bool x1044.Del, v1052]) z isAgg41 sizeOf41 (eCells (o := 0) (hc1051 (HL.le.refl _) hst) z)) (wsr (Pt b821 0) 25 z z z (by kernel_rfl) (fun w hst => z) (wsr (Pt b821 0) 26 z z z (by kernel_rfl) (fun w hst => z) (wsr (Pt b821 0) 27 z z z (by kernel_rfl) (fun w hst => x_field z underlying111 z sizeOf3 z) (wsr (.int .i64 z1009.wide) 28 z z z (by kernel_rfl) (fun w hst => x_load z isAgg3 (hst.bc1 z)) ?_))))
 refine ws_e1 12 (by kernel_rfl) ?_
 refine nxe [13, 14, 15, 29, 30, 31, 32, 33, 34, 35] (by kernel_rfl) z z ?_
 clear hst
 intro w hst
 obtain ⟨y1205, hq1206, hm⟩ := bind_some hm
 refine we_call z (x_callv call15 (caps := []) z (vs := [Pt b821 0, I6 a2.Rule.To]) z) ?_
 refine Calls.mono (show Calls prog 15 #[Pt b821 0, I6 a2.Rule.To] _ (fun e w' => ∃ (z1203 : (List api_Item)) (v1202 : Value), z1203 = y1205 ∧ e = .returned (v1202) ∧ St w0 w' I [ownS ty_api_Item v1202 z1203, cells b821 [I6 z1009.wide, U6 z1009.epoch, v1016, v1018, v1020, v1022, v1024, v1026, v1028], objO at_mvcc_Store v1016 z1009.store, objO at_locks_Table v1018 z1009.locks, objO at_session_Table v1020 z1009.last, objO at_policy_Book v1022 z1009.book, ownS ty_api_Decision v1024 z1009.open_, ownS ty_api_Item v1026 z1009.out, ownS ty_lane_used v1028 ((z1009.used.set z901.toNat ({ rule := x1031.rule, epoch := a2.Epoch, n := x1031.n } : lane_used)).set z901.toNat ({ rule := ({ rule := x1031.rule, epoch := a2.Epoch, n := x1031.n } : lane_used).rule, epoch := ({ rule := x1031.rule, epoch := a2.Epoch, n := x1031.n } : lane_used).epoch, n := (i64.wrap (z914 + (1:Int))) } : lane_used)), cells b798 [U1 a2.Kind, U6 a2.ID.Session, U6 a2.ID.Seq, U6 a2.Epoch, U6 a2.Index, I6 a2.E, U6 a2.Hold.ID.Session, U6 a2.Hold.ID.Seq, U6 a2.Hold.Epoch, r2_0, r2_1, r2_2, r2_3, r2_4, I6 a2.R.E, U6 a2.R.Epoch, U6 a2.R.Index, r2_5, r2_6, U6 a2.Shards, r2_7, U6 a2.Rule.ID, I6 a2.Rule.From, I6 a2.Rule.To, F6 a2.Rule.Lo, F6 a2.Rule.Hi, U6 a2.Rule.Authority, I6 a2.Rule.Quota, .bool a2.On], cells b805 [Zb, Zu, Zu, Zi, Zu, Zu, Zs, Zs], cells b814 [I6 z946, U6 a2.Epoch, U6 a1, Zs, Zs]] R) from ?_) ?_
 {
 clear hm; have hm := hq1206
 refine calls_start (args := [Pt b821 0, I6 a2.Rule.To]) func15 z ntmps15 (Nat.le_of_ble_eq_true z) ?_
 refine wp_seq (wrl (wv ((.slice none 0 0)) z z z (wl_nil (tn (wp_seq (wrl (wv ((.slice none 0 0)) z z z (wl_nil (tn (wp_seq (wp_seq (wrl (wv (Pt b821 0) z z z (wv (.bool false) z z (by kernel_rfl) (wl_nil (tn ?_))))))))))))))))
 refine wp_iff z ?_
 refine wp_skip (tn (wp_seq (wp_seq (wrl ?_))))
 refine wv (Pt b821 0) z z z (wv (Pt b821 0) z z z (wv (Pt b821 7) z z (x_field z underlying111 z sizeOf50 z) (wv (v1026) z z (x_load z isAgg50 (hst.bc1 z)) (wv (.int .i64 ((z1009.out).length : Int)) z z (x_len z underlying50 hst.sv7) (wv (.int .i64 (0:Int)) z z z (wl_nil (tn (wp_block ?_))))))))
 replace hst := hst.own_nil ty_api_Item
 obtain ⟨n1162, hm⟩ := loopO_some hm
 refine wp_loop_n (fun n a w => ∃ (z1157 : Int) (z1158 : (List api_Item)) (v1159 : Value) (σ1161 : Nat → Value), loopN (lane_State_give_l6 z1009 a2) n (z1157, z1158) = some y1205 ∧ a = Fr 30 (upd (upd (upd (upd (upd σ1161 1 (.int .i64 a2.Rule.To)) 5 (v1159)) 14 (v1026)) 15 (.int .i64 ((z1009.out).length : Int))) 16 (.int .i64 z1157)) ∧ St w0 w I [ownS ty_api_Item v1159 z1158, ownS ty_lane_used v1028 ((z1009.used.set z901.toNat ({ rule := x1031.rule, epoch := a2.Epoch, n := x1031.n } : lane_used)).set z901.toNat ({ rule := ({ rule := x1031.rule, epoch := a2.Epoch, n := x1031.n } : lane_used).rule, epoch := ({ rule := x1031.rule, epoch := a2.Epoch, n := x1031.n } : lane_used).epoch, n := (i64.wrap (z914 + (1:Int))) } : lane_used)), cells b821 [I6 z1009.wide, U6 z1009.epoch, v1016, v1018, v1020, v1022, v1024, v1026, v1028], objO at_mvcc_Store v1016 z1009.store, objO at_locks_Table v1018 z1009.locks, objO at_session_Table v1020 z1009.last, objO at_policy_Book v1022 z1009.book, ownS ty_api_Decision v1024 z1009.open_, ownS ty_api_Item v1026 z1009.out, cells b798 [U1 a2.Kind, U6 a2.ID.Session, U6 a2.ID.Seq, U6 a2.Epoch, U6 a2.Index, I6 a2.E, U6 a2.Hold.ID.Session, U6 a2.Hold.ID.Seq, U6 a2.Hold.Epoch, r2_0, r2_1, r2_2, r2_3, r2_4, I6 a2.R.E, U6 a2.R.Epoch, U6 a2.R.Index, r2_5, r2_6, U6 a2.Shards, r2_7, U6 a2.Rule.ID, I6 a2.Rule.From, I6 a2.Rule.To, F6 a2.Rule.Lo, F6 a2.Rule.Hi, U6 a2.Rule.Authority, I6 a2.Rule.Quota, .bool a2.On], cells b805 [Zb, Zu, Zu, Zi, Zu, Zu, Zs, Zs], cells b814 [I6 z946, U6 a2.Epoch, U6 a1, Zs, Zs]] R) n1162 ⟨(0:Int), [], Zs, _, hm, (fu 1 (.int .i64 a2.Rule.To) z (fu 5 (.slice none 0 0) z (fu 14 v1026 z (fu 15 (.int .i64 ((z1009.out).length : Int)) z (fu 16 (.int .i64 (0:Int)) z z))))), hst⟩ ?_
 rintro n1168 _ w1163 ⟨z1157, z1158, v1159, σ1161, hm, rfl, hst⟩
 obtain ⟨n1165, y1166, rfl, hm, hx1167⟩ := loopN_some hm
 dsimp only [lane_State_give_l6] at hm
 refine wp_seq (wrl (wv (.bool (decide (z1157 < ((z1009.out).length : Int)))) z z z (wl_nil (tn (wp_seq ?_)))))
 refine bsplit (decide (z1157 < ((z1009.out).length : Int))) (fun hc1169 => ?_) (fun hc1169 => ?_)
 {
 replace hm := bif_t hc1169 hm
 refine wp_ift (cvb hc1169) ?_
 refine wp_skip (tn (wp_seq (wp_block (wp_seq (wrl ?_)))))
 obtain ⟨x1170, hx1171, hm⟩ := bind_some hm
 obtain ⟨h1172, h1173, hi1174⟩ := geto_some hx1171
 refine wv (.pointer (some (eAddr v1026 (z1157.toNat * 7 + 0)))) z z (x_index z z underlying50 sizeOf53 hst.sv8 h1172 h1173) ?_
 obtain ⟨cs1175, hr1176, hc1177⟩ := hst.og8 hi1174
 obtain ⟨v1178, rfl, f1179, -⟩ := hr1176
 refine wv (.agg #[I6 x1170.To, U6 x1170.N, U6 x1170.Rule, U6 x1170.Epoch, F6 x1170.W.At, .bool x1170.W.Del, v1178]) z z (x_loadN (cs := [I6 x1170.To, U6 x1170.N, U6 x1170.Rule, U6 x1170.Epoch, F6 x1170.W.At, .bool x1170.W.Del, v1178]) z isAgg53 sizeOf53 (eCells (o := 0) hc1177 z)) ?_
 obtain ⟨b1182, w1183, ew1184, eb1185, hst⟩ := hst.box [Zi, Zu, Zu, Zu, Zf, .bool false, Zs] 53
 refine wl_run (v := Pt b1182 0) (w' := w1183) z z (x_al (by kernel_rfl) ew1184 eb1185) ?_
 obtain ⟨w1187, hr1188, hst⟩ := hst.bx [I6 x1170.To, U6 x1170.N, U6 x1170.Rule, U6 x1170.Epoch, F6 x1170.W.At, .bool x1170.W.Del, v1178] sizeOf53 z (oC z (oC z (oC z (oC z (oC z (oC z (oC (one_of_sliceV (ro_sliceV f1179)) oN))))))) (by kernel_rfl)
 refine wl_unit z z (x_unit hr1188) ?_
 refine wl_nil (tn (wp_seq (wrl (wv (Pt b1182 0) z z (x_field z underlying53 z sizeOf3 z) (wv (.int .i64 x1170.To) z z (x_load z isAgg3 (hst.bc0 z)) (wv (.int .i64 a2.Rule.To) z z z (wv (.bool (x1170.To == a2.Rule.To)) z z z (wl_nil (tn ?_)))))))))
 refine bsplit (x1170.To == a2.Rule.To) (fun hc1189 => ?_) (fun hc1189 => ?_)
 {
 replace hm := bif_t hc1189 hm
 refine wp_ift (cvb hc1189) ?_
 refine wrl (wv (v1159) z z z (wv (.agg #[I6 x1170.To, U6 x1170.N, U6 x1170.Rule, U6 x1170.Epoch, F6 x1170.W.At, .bool x1170.W.Del, v1178]) z z (x_loadN (cs := [I6 x1170.To, U6 x1170.N, U6 x1170.Rule, U6 x1170.Epoch, F6 x1170.W.At, .bool x1170.W.Del, v1178]) z isAgg53 sizeOf53 (hst.bcs0 0 z)) ?_))
 obtain ⟨b1191, w1192, ew1193, eb1194, hst⟩ := hst.lits (E := ty_api_Item) (xs := [x1170]) [[I6 x1170.To, U6 x1170.N, U6 x1170.Rule, U6 x1170.Epoch, F6 x1170.W.At, .bool x1170.W.Del, v1178]] 53 1 z (Reps.cons ⟨_, z, f1179, one_of_sliceV (ro_sliceV f1179)⟩ Reps.nil)
 refine wl_run (v := (.slice (some ⟨b1191, 0, none⟩) 1 1)) (w' := w1192) z z (x_als (by kernel_rfl) ew1193 eb1194) ?_
 obtain ⟨hg1196, hm⟩ := gd_some hm
 replace hst := hst.pull2
 obtain ⟨v1197, w1198, hr1199, hst⟩ := run_append elem_50 underlying50 hst hst.src1 (room_of hg1196 z) 50
 refine wl_run (v := v1197) (w' := w1198) z z (x_append z z hr1199) ?_
 refine wv (v1197) z z z (wl_nil (blk_n (tn (wrl (wv (.int .i64 (i64.wrap (z1157 + (1:Int)))) z z z (wv (.int .i64 (i64.wrap (z1157 + (1:Int)))) z z z (wl_nil (tn ?_))))))))
 replace hst := hst.pull13.pull13.pull13.pull13.pull13.pull13.pull13.pull13.pull13.pull13.pull13.pull11.keep12
 obtain rfl := some_inj hm
 exact ⟨_, Nat.lt_succ_self _, (i64.wrap (z1157 + (1:Int))), (z1158 ++ ([x1170])), v1197, _, hx1167, (fu 1 (.int .i64 a2.Rule.To) z (fu 5 v1197 z (fu 14 v1026 z (fu 15 (.int .i64 ((z1009.out).length : Int)) z (fu 16 (.int .i64 (i64.wrap (z1157 + (1:Int)))) z z))))), hst⟩
}
 {
 replace hm := bif_f hc1189 hm
 refine wp_iff (cvb hc1189) ?_
 refine wp_skip (blk_n (tn (wrl ?_)))
 refine wv (.int .i64 (i64.wrap (z1157 + (1:Int)))) z z z (wv (.int .i64 (i64.wrap (z1157 + (1:Int)))) z z z (wl_nil (tn ?_)))
 replace hst := hst.pull12.pull12.pull12.pull12.pull12.pull12.pull12.pull12.pull12.pull12.pull12.pull12.keep12
 obtain rfl := some_inj hm
 exact ⟨_, Nat.lt_succ_self _, (i64.wrap (z1157 + (1:Int))), z1158, v1159, _, hx1167, (fu 1 (.int .i64 a2.Rule.To) z (fu 5 v1159 z (fu 14 v1026 z (fu 15 (.int .i64 ((z1009.out).length : Int)) z (fu 16 (.int .i64 (i64.wrap (z1157 + (1:Int)))) z z))))), hst⟩
}
}
 {
 replace hm := bif_f hc1169 hm
 refine wp_iff (cvb hc1169) ?_
 refine wp_exit (then_x (then_x ?_))
 replace hm := inr_up hm hx1167
 refine blk_x (tn (wp_seq (wrl ?_)))
 refine wv (v1159) z z z (wv (v1159) z z z (wl_nil (tn (wp_ret ?_))))
 refine post_ret (vs := [v1159]) results15 (rvs_cons (rv_tmp z) rvs_nil) ?_
 replace hst := hst.pull11.pull11.pull11.pull4.pull11.pull11.pull11.pull11.pull11.pull11.pull11.pull11.keep12
 obtain rfl := some_inj hm
 exact ⟨z1158, v1159, z, z, hst⟩
}
}
 clear hst
 rintro _ w1207 ⟨z1203, v1202, rfl, rfl, hst⟩
 refine ⟨_, z, ?_⟩
 try dsimp only at hm
 refine ws_next (pend' := [(28, I6 z1009.wide), (27, Pt b821 0), (26, Pt b821 0), (25, Pt b821 0), (24, .agg #[F6 x1044.At, .bool x1044.Del, v1052]), (23, .pointer (some (eAddr r2_4 ((0:Int).toNat * 3 + 0)))), (22, r2_4), (21, Pt b798 13), (20, U6 a2.Epoch), (19, Pt b798 3), (18, U6 a2.Rule.ID), (17, Pt b798 21), (16, Pt b798 21), (7, I6 a2.Rule.To), (6, Pt b798 23), (5, Pt b798 21), (4, v1026), (3, Pt b821 7), (2, Pt b821 0), (1, Pt b821 0), (0, Pt b821 0)]) hst (by kernel_rfl) (pkr z z (fun w hst => x_load z isAgg3 (hst.bc1 z)) (pkr z z (fun w hst => x_field z underlying111 z sizeOf3 z) (pkr z z (fun w hst => z) (pkr z z (fun w hst => z) (pkr z z (fun w hst => x_loadN (cs := [F6 x1044.At, .bool x1044.Del, v1052]) z isAgg41 sizeOf41 (eCells (o := 0) (hc1051 (HL.le.refl _) hst) z)) (pkr z z (fun w hst => x_index z z underlying42 sizeOf41 (rd_sliceV f2_4) h1046 h1047) (pkr z z (fun w hst => x_load z isAgg42 (hst.bc9 z)) (pkr z z (fun w hst => x_field z underlying49 z sizeOf42 z) (pkr z z (fun w hst => x_load z isAgg26 (hst.bc9 z)) (pkr z z (fun w hst => x_field z underlying49 z sizeOf26 z) (pkr z z (fun w hst => x_load z isAgg26 (hst.bc9 z)) (pkr z z (fun w hst => x_field z underlying39 z sizeOf26 z) (pkr z z (fun w hst => x_field z underlying49 z sizeOf39 z) (pkr z z (fun w hst => x_load z isAgg3 (hst.bc9 z)) (pkr z z (fun w hst => x_field z underlying39 z sizeOf3 z) (pkr z z (fun w hst => x_field z underlying49 z sizeOf39 z) (pkr z z (fun w hst => x_load z isAgg50 (hst.bc1 z)) (pkr z z (fun w hst => x_field z underlying111 z sizeOf50 z) (pkr z z (fun w hst => z) (pkr z z (fun w hst => z) (pkr z z (fun w hst => z) pk_nil))))))))))))))))))))) ?_
 refine wsr (.int .i64 ((z1203).length : Int)) 13 z z z (by kernel_rfl) (fun w hst => x_len z underlying50 hst.sv0) (wsr (.int .i64 (i64.wrap (((z1203).length : Int) + (1:Int)))) 14 z z z (by kernel_rfl) (fun w hst => z) (wsr (.int .u64 (u64.wrap (i64.wrap (((z1203).length : Int) + (1:Int))))) 15 z z z (by kernel_rfl) (fun w hst => by kernel_rfl) ?_))
 refine ws_e1 29 (by kernel_rfl) ?_
 refine nxe [30, 31, 32, 33, 34, 35] (by kernel_rfl) z z ?_
 clear hst
 intro w hst
 obtain ⟨t1208, ht1209, hm⟩ := bind_some hm
 refine wec call17 [.agg #[F6 x1044.At, .bool x1044.Del, v1052], I6 z1009.wide] z z ?_
 refine (lane_Pad_ref (f1053.mono (rd_weak _)) hst.to0 ht1209).mono ?_
 rintro _ w1210 ⟨v1213, rfl, hst⟩
 refine ⟨_, z, ?_⟩
 replace hst := hst.of1
 refine ws_next (pend' := [(15, U6 (u64.wrap (i64.wrap (((z1203).length : Int) + (1:Int))))), (14, I6 (i64.wrap (((z1203).length : Int) + (1:Int)))), (13, I6 ((z1203).length : Int)), (20, U6 a2.Epoch), (19, Pt b798 3), (18, U6 a2.Rule.ID), (17, Pt b798 21), (16, Pt b798 21), (7, I6 a2.Rule.To), (6, Pt b798 23), (5, Pt b798 21), (4, v1026), (3, Pt b821 7), (2, Pt b821 0), (1, Pt b821 0), (0, Pt b821 0)]) hst (by kernel_rfl) (pkr z z (fun w hst => by kernel_rfl) (pkr z z (fun w hst => z) (pkr z z (fun w hst => x_len z underlying50 hst.sv1) (pkr z z (fun w hst => x_load z isAgg26 (hst.bc10 z)) (pkr z z (fun w hst => x_field z underlying49 z sizeOf26 z) (pkr z z (fun w hst => x_load z isAgg26 (hst.bc10 z)) (pkr z z (fun w hst => x_field z underlying39 z sizeOf26 z) (pkr z z (fun w hst => x_field z underlying49 z sizeOf39 z) (pkr z z (fun w hst => x_load z isAgg3 (hst.bc10 z)) (pkr z z (fun w hst => x_field z underlying39 z sizeOf3 z) (pkr z z (fun w hst => x_field z underlying49 z sizeOf39 z) (pkr z z (fun w hst => x_load z isAgg50 (hst.bc2 z)) (pkr z z (fun w hst => x_field z underlying111 z sizeOf50 z) (pkr z z (fun w hst => z) (pkr z z (fun w hst => z) (pkr z z (fun w hst => z) pk_nil)))))))))))))))) ?_
 refine wsr (.agg #[I6 a2.Rule.To, U6 (u64.wrap (i64.wrap (((z1203).length : Int) + (1:Int)))), U6 a2.Rule.ID, U6 a2.Epoch, F6 t1208.At, .bool t1208.Del, v1213]) 30 rfl rfl rfl (by kernel_rfl) (fun w hst => by obtain ⟨_, _, hv_, _⟩ := hst.sv0; rw [hv_]; kernel_rfl) ?_
 refine ws_e1 31 (by kernel_rfl) ?_
 refine nxe [32, 33, 34, 35] (by kernel_rfl) z z ?_
 clear hst
 intro w hst
 obtain ⟨I1217, hI1218, f1219, hst⟩ := hst.own_fix
 replace f2_0 := f2_0.mono (rd_le hI1218)
 replace f2_1 := f2_1.mono (rd_le hI1218)
 replace f2_2 := f2_2.mono (rd_le hI1218)
 replace f2_3 := f2_3.mono (rd_le hI1218)
 replace f2_4 := f2_4.mono (rd_le hI1218)
 replace f2_5 := f2_5.mono (rd_le hI1218)
 replace f2_6 := f2_6.mono (rd_le hI1218)
 replace f2_7 := f2_7.mono (rd_le hI1218)
 replace f968 := f968.mono (ro_le hI1218)
 replace f969 := f969.mono (ro_le hI1218)
 replace f1053 := f1053.mono (rd_le hI1218)
 replace hI0 := hI0.trans hI1218
 replace hL1238 := hL1238.trans hI1218
 obtain ⟨b1220, w1221, ew1222, eb1223, hst⟩ := hst.lits (E := ty_api_Item) (xs := [({ To := a2.Rule.To, N := (u64.wrap (i64.wrap (((z1203).length : Int) + (1:Int)))), Rule := a2.Rule.ID, Epoch := a2.Epoch, W := t1208 } : api_Item)]) [[I6 a2.Rule.To, U6 (u64.wrap (i64.wrap (((z1203).length : Int) + (1:Int)))), U6 a2.Rule.ID, U6 a2.Epoch, F6 t1208.At, .bool t1208.Del, v1213]] 53 1 z (Reps.cons ⟨_, z, f1219, one_of_sliceV (ro_sliceV f1219)⟩ Reps.nil)
 refine we_run (v := (.slice (some ⟨b1220, 0, none⟩) 1 1)) (w' := w1221) z (x_als (by kernel_rfl) ew1222 eb1223) ?_
 refine ws_next (pend' := [(4, v1026), (3, Pt b821 7), (2, Pt b821 0), (1, Pt b821 0), (0, Pt b821 0)]) hst (by kernel_rfl) (pkr z z (fun w hst => x_load z isAgg50 (hst.bc2 z)) (pkr z z (fun w hst => x_field z underlying111 z sizeOf50 z) (pkr z z (fun w hst => z) (pkr z z (fun w hst => z) (pkr z z (fun w hst => z) pk_nil))))) ?_
 refine ws_e1 32 (by kernel_rfl) ?_
 refine nxe [33, 34, 35] (by kernel_rfl) z z ?_
 clear hst
 intro w hst
 obtain ⟨hg1225, hm⟩ := gd_some hm
 replace hst := hst.pull8
 obtain ⟨v1226, w1227, hr1228, hst⟩ := run_append elem_50 underlying50 hst hst.src1 (room_of hg1225 z) 50
 refine we_run (v := v1226) (w' := w1227) z (x_append z z hr1228) ?_
 refine ws_next (pend' := [(0, Pt b821 0)]) hst (by kernel_rfl) (pkr z z (fun w hst => z) pk_nil) ?_
 refine wsr (Pt b821 0) 33 z z z (by kernel_rfl) (fun w hst => z) (wsr (Pt b821 7) 34 z z z (by kernel_rfl) (fun w hst => x_field z underlying111 z sizeOf50 z) ?_)
 refine ws_e1 35 (by kernel_rfl) ?_
 refine nxe [] (by kernel_rfl) z z ?_
 clear hst
 intro w hst
 replace hst := hst.pull3
 obtain ⟨w1230, hr1231, hst⟩ := hst.boxStore1 (P := prog) (t := 50) (cs' := [I6 z1009.wide, U6 z1009.epoch, v1016, v1018, v1020, v1022, v1024, v1226, v1028]) 7 v1226 (one_of_sliceV hst.sv1) sizeOf50 z z
 refine we_unit z (x_unit hr1231) ?_
 refine ws_next (pend' := []) hst (by kernel_rfl) pk_nil ?_
 refine ws_nil ?_
 intro w hst
 refine tn ?_
 replace hst := hst.pull9.pull2.pull9.pull9.pull9.pull9.pull9.pull7
 replace hst := at_lane_State_close (pv := Pt b821 0) (x := ({ wide := z1009.wide, epoch := z1009.epoch, store := z1009.store, locks := z1009.locks, last := z1009.last, book := z1009.book, open_ := z1009.open_, out := (z1009.out ++ ([({ To := a2.Rule.To, N := (u64.wrap (i64.wrap (((z1203).length : Int) + (1:Int)))), Rule := a2.Rule.ID, Epoch := a2.Epoch, W := t1208 } : api_Item)])), used := ((z1009.used.set z901.toNat ({ rule := x1031.rule, epoch := a2.Epoch, n := x1031.n } : lane_used)).set z901.toNat ({ rule := ({ rule := x1031.rule, epoch := a2.Epoch, n := x1031.n } : lane_used).rule, epoch := ({ rule := x1031.rule, epoch := a2.Epoch, n := x1031.n } : lane_used).epoch, n := (i64.wrap (z914 + (1:Int))) } : lane_used)) } : lane_State)) hst z
 replace hst := hst.pull5.pull5.pull5.keep4
 obtain rfl := some_inj hm
 exact ⟨_, ({ wide := z1009.wide, epoch := z1009.epoch, store := z1009.store, locks := z1009.locks, last := z1009.last, book := z1009.book, open_ := z1009.open_, out := (z1009.out ++ ([({ To := a2.Rule.To, N := (u64.wrap (i64.wrap (((z1203).length : Int) + (1:Int)))), Rule := a2.Rule.ID, Epoch := a2.Epoch, W := t1208 } : api_Item)])), used := ((z1009.used.set z901.toNat ({ rule := x1031.rule, epoch := a2.Epoch, n := x1031.n } : lane_used)).set z901.toNat ({ rule := ({ rule := x1031.rule, epoch := a2.Epoch, n := x1031.n } : lane_used).rule, epoch := ({ rule := x1031.rule, epoch := a2.Epoch, n := x1031.n } : lane_used).epoch, n := (i64.wrap (z914 + (1:Int))) } : lane_used)) } : lane_State), _, hx1237, (fu 5 (Pt b798 0) z (fu 6 (Pt b805 0) z (fu 7 (Pt b814 0) z z))), hL1238, hst⟩
}
}
 {
 replace hm := bif_f hc993 hm
 refine wp_iff (cvb hc993) ?_
 refine wp_skip (tn ?_)
 replace hst := hst.pull7.pull7.pull7.pull7.pull4.pull7.pull7.pull7
 replace hst := at_lane_State_close (pv := Pt b821 0) (x := ({ wide := o0.wide, epoch := o0.epoch, store := o0.store, locks := o0.locks, last := t970.2, book := o0.book, open_ := o0.open_, out := o0.out, used := o0.used } : lane_State)) hst z
 replace hst := hst.pull3.pull3.pull3.keep4
 obtain rfl := some_inj hm
 exact ⟨_, ({ wide := o0.wide, epoch := o0.epoch, store := o0.store, locks := o0.locks, last := t970.2, book := o0.book, open_ := o0.open_, out := o0.out, used := o0.used } : lane_State), _, hx1237, (fu 5 (Pt b798 0) z (fu 6 (Pt b805 0) z (fu 7 (Pt b814 0) z z))), hL1238, hst⟩
}
}
 {
 clear hst
 rintro _ w1239 ⟨I1233, z1232, σ1234, hm, rfl, hL1235, hst⟩
 dsimp only [lane_State_give_j4] at hm
 replace f2_0 := f2_0.mono (rd_le hL1235)
 replace f2_1 := f2_1.mono (rd_le hL1235)
 replace f2_2 := f2_2.mono (rd_le hL1235)
 replace f2_3 := f2_3.mono (rd_le hL1235)
 replace f2_4 := f2_4.mono (rd_le hL1235)
 replace f2_5 := f2_5.mono (rd_le hL1235)
 replace f2_6 := f2_6.mono (rd_le hL1235)
 replace f2_7 := f2_7.mono (rd_le hL1235)
 replace f968 := f968.mono (ro_le hL1235)
 replace f969 := f969.mono (ro_le hL1235)
 replace hI0 := hI0.trans hL1235
 refine wp_seq (wrl (wv (Pt b798 1) z z (x_field z underlying49 z sizeOf28 z) (wv (.agg #[U6 a2.ID.Session, U6 a2.ID.Seq]) z z (x_loadN (cs := [U6 a2.ID.Session, U6 a2.ID.Seq]) z isAgg28 sizeOf28 (hst.bcs0 1 z)) (wv (.agg #[I6 z946, U6 a2.Epoch, U6 a1, Zs, Zs]) z z (x_loadN (cs := [I6 z946, U6 a2.Epoch, U6 a1, Zs, Zs]) z isAgg33 sizeOf33 (hst.bcs2 0 z)) (wv (.agg #[U1 (4:Int), U6 a2.ID.Session, U6 a2.ID.Seq, I6 z946, U6 a2.Epoch, U6 a1, Zs, Zs]) z z (by kernel_rfl) ?_)))))
 replace hst := hst.pull1
 obtain ⟨w1242, hr1243, hst⟩ := hst.bx [U1 (4:Int), U6 a2.ID.Session, U6 a2.ID.Seq, I6 z946, U6 a2.Epoch, U6 a1, Zs, Zs] sizeOf35 z (oC z (oC z (oC z (oC z (oC z (oC z (oC (one_of_sliceV (ro_sliceV f968)) (oC (one_of_sliceV (ro_sliceV f969)) oN)))))))) (by kernel_rfl)
 refine wl_unit z z (x_unit hr1243) ?_
 refine wl_nil (tn (wp_ret ?_))
 replace hst := hst.pull3
 replace hst := objO_some hst
 obtain rfl := some_inj hm
 refine post_ret (vs := [.agg #[U1 (4:Int), U6 a2.ID.Session, U6 a2.ID.Seq, I6 z946, U6 a2.Epoch, U6 a1, Zs, Zs]]) results55 (rvs_cons (rv_cell (cs := [U1 (4:Int), U6 a2.ID.Session, U6 a2.ID.Seq, I6 z946, U6 a2.Epoch, U6 a1, Zs, Zs]) z isAgg35 sizeOf35 (hst.bcs1 0 z)) rvs_nil) ?_
 exact ⟨_, Zs, Zs, z, hI0, f968, f969, hst.keep1⟩
}
}
}
}
}
}

theorem lane_State_Apply_ref {w0 w : World} {I : HL} {R : SP} {a0 : (Option lane_State)} {p0 : Value} {a1 : Int} {a2 : api_Command} {r2_0 : Value} {r2_1 : Value} {r2_2 : Value} {r2_3 : Value} {r2_4 : Value} {r2_5 : Value} {r2_6 : Value} {r2_7 : Value} (f2_0 : Ro tyF64 I r2_0 a2.Hold.Gets) (f2_1 : Ro tyF2 I r2_1 a2.Hold.Scans) (f2_2 : Ro tyF64 I r2_2 a2.Hold.Puts) (f2_3 : Ro (tyInt .u8) I r2_3 a2.Hold.Data) (f2_4 : Ro ty_api_Write I r2_4 a2.Writes) (f2_5 : Ro ty_api_Got I r2_5 a2.R.Gots) (f2_6 : Ro (tySl ty_api_Pair) I r2_6 a2.R.Scans) (f2_7 : Ro ty_api_Part I r2_7 a2.Parts) (hst : St w0 w I [objO at_lane_State p0 a0] R) {r : (api_Effect × (Option lane_State))} (hm : lane_State_Apply a0 a1 a2 = some r) :
  Calls prog 14 #[p0, U6 a1, .agg #[U1 a2.Kind, U6 a2.ID.Session, U6 a2.ID.Seq, U6 a2.Epoch, U6 a2.Index, I6 a2.E, U6 a2.Hold.ID.Session, U6 a2.Hold.ID.Seq, U6 a2.Hold.Epoch, r2_0, r2_1, r2_2, r2_3, r2_4, I6 a2.R.E, U6 a2.R.Epoch, U6 a2.R.Index, r2_5, r2_6, U6 a2.Shards, r2_7, U6 a2.Rule.ID, I6 a2.Rule.From, I6 a2.Rule.To, F6 a2.Rule.Lo, F6 a2.Rule.Hi, U6 a2.Rule.Authority, I6 a2.Rule.Quota, .bool a2.On]] w fun e w' => ∃ (I' : HL) (q0_0 : Value) (q0_1 : Value), e = .returned (.agg #[U1 r.1.Kind, U6 r.1.ID.Session, U6 r.1.ID.Seq, I6 r.1.R.E, U6 r.1.R.Epoch, U6 r.1.R.Index, q0_0, q0_1]) ∧ I.le I' ∧ Ro ty_api_Got I' q0_0 r.1.R.Gots ∧ Ro (tySl ty_api_Pair) I' q0_1 r.1.R.Scans ∧ St w0 w' I' [objO at_lane_State p0 r.2] R := by {
 rcases a0 with _ | o0
 {
 obtain ⟨rfl, hst'⟩ := objO_none hst
 clear hst
 have hst := hst'
 clear hst'
 dsimp only [lane_State_Apply] at hm
 refine calls_start (args := [.pointer none, U6 a1, .agg #[U1 a2.Kind, U6 a2.ID.Session, U6 a2.ID.Seq, U6 a2.Epoch, U6 a2.Index, I6 a2.E, U6 a2.Hold.ID.Session, U6 a2.Hold.ID.Seq, U6 a2.Hold.Epoch, r2_0, r2_1, r2_2, r2_3, r2_4, I6 a2.R.E, U6 a2.R.Epoch, U6 a2.R.Index, r2_5, r2_6, U6 a2.Shards, r2_7, U6 a2.Rule.ID, I6 a2.Rule.From, I6 a2.Rule.To, F6 a2.Rule.Lo, F6 a2.Rule.Hi, U6 a2.Rule.Authority, I6 a2.Rule.Quota, .bool a2.On]]) func14 z ntmps14 (Nat.le_of_ble_eq_true z) ?_
 have hI0 := HL.le.refl I
 refine wp_seq (wrl ?_)
 obtain ⟨b322, w323, ew324, eb325, hst⟩ := hst.box [U1 a2.Kind, U6 a2.ID.Session, U6 a2.ID.Seq, U6 a2.Epoch, U6 a2.Index, I6 a2.E, U6 a2.Hold.ID.Session, U6 a2.Hold.ID.Seq, U6 a2.Hold.Epoch, r2_0, r2_1, r2_2, r2_3, r2_4, I6 a2.R.E, U6 a2.R.Epoch, U6 a2.R.Index, r2_5, r2_6, U6 a2.Shards, r2_7, U6 a2.Rule.ID, I6 a2.Rule.From, I6 a2.Rule.To, F6 a2.Rule.Lo, F6 a2.Rule.Hi, U6 a2.Rule.Authority, I6 a2.Rule.Quota, .bool a2.On] 49
 refine wl_run (v := Pt b322 0) (w' := w323) z z (x_al (by kernel_rfl) ew324 eb325) ?_
 obtain ⟨b329, w330, ew331, eb332, hst⟩ := hst.box [Zb, Zu, Zu, Zi, Zu, Zu, Zs, Zs] 35
 refine wl_run (v := Pt b329 0) (w' := w330) z z (x_al (by kernel_rfl) ew331 eb332) ?_
 refine wl_nil (tn (wp_seq (wp_seq (wrl (wv (.pointer none) z z z (wv (.bool true) z z (by kernel_rfl) (wl_nil (tn ?_))))))))
 refine wp_ift z ?_
 refine wp_seq (wrl (wv (.agg #[Zb, Zu, Zu, Zi, Zu, Zu, Zs, Zs]) z z (by kernel_rfl) ?_))
 obtain ⟨w336, hr337, hst⟩ := hst.bx [Zb, Zu, Zu, Zi, Zu, Zu, Zs, Zs] sizeOf35 z (oC z (oC z (oC z (oC z (oC z (oC z (oC z (oC z oN)))))))) (by kernel_rfl)
 refine wl_unit z z (x_unit hr337) ?_
 refine wl_nil (tn (wp_ret (then_r ?_)))
 have f338 : Ro ty_api_Got I (.slice none 0 0) [] := ro_nil
 have f339 : Ro (tySl ty_api_Pair) I (.slice none 0 0) [] := ro_nil
 replace hst := hst.objO_nil at_lane_State
 obtain rfl := some_inj hm
 refine post_ret (vs := [.agg #[Zb, Zu, Zu, Zi, Zu, Zu, Zs, Zs]]) results14 (rvs_cons (rv_cell (cs := [Zb, Zu, Zu, Zi, Zu, Zu, Zs, Zs]) z isAgg35 sizeOf35 (hst.bcs1 0 z)) rvs_nil) ?_
 exact ⟨_, Zs, Zs, z, hI0, f338, f339, hst.keep1⟩
}
 {
 replace hst := objO_get hst
 dsimp only [lane_State_Apply] at hm
 refine calls_start (args := [p0, U6 a1, .agg #[U1 a2.Kind, U6 a2.ID.Session, U6 a2.ID.Seq, U6 a2.Epoch, U6 a2.Index, I6 a2.E, U6 a2.Hold.ID.Session, U6 a2.Hold.ID.Seq, U6 a2.Hold.Epoch, r2_0, r2_1, r2_2, r2_3, r2_4, I6 a2.R.E, U6 a2.R.Epoch, U6 a2.R.Index, r2_5, r2_6, U6 a2.Shards, r2_7, U6 a2.Rule.ID, I6 a2.Rule.From, I6 a2.Rule.To, F6 a2.Rule.Lo, F6 a2.Rule.Hi, U6 a2.Rule.Authority, I6 a2.Rule.Quota, .bool a2.On]]) func14 z ntmps14 (Nat.le_of_ble_eq_true z) ?_
 have hI0 := HL.le.refl I
 refine wp_seq (wrl ?_)
 obtain ⟨b340, w341, ew342, eb343, hst⟩ := hst.box [U1 a2.Kind, U6 a2.ID.Session, U6 a2.ID.Seq, U6 a2.Epoch, U6 a2.Index, I6 a2.E, U6 a2.Hold.ID.Session, U6 a2.Hold.ID.Seq, U6 a2.Hold.Epoch, r2_0, r2_1, r2_2, r2_3, r2_4, I6 a2.R.E, U6 a2.R.Epoch, U6 a2.R.Index, r2_5, r2_6, U6 a2.Shards, r2_7, U6 a2.Rule.ID, I6 a2.Rule.From, I6 a2.Rule.To, F6 a2.Rule.Lo, F6 a2.Rule.Hi, U6 a2.Rule.Authority, I6 a2.Rule.Quota, .bool a2.On] 49
 refine wl_run (v := Pt b340 0) (w' := w341) z z (x_al (by kernel_rfl) ew342 eb343) ?_
 obtain ⟨b347, w348, ew349, eb350, hst⟩ := hst.box [Zb, Zu, Zu, Zi, Zu, Zu, Zs, Zs] 35
 refine wl_run (v := Pt b347 0) (w' := w348) z z (x_al (by kernel_rfl) ew349 eb350) ?_
 refine wl_nil (tn (wp_seq (wp_seq (wrl (wv (p0) z z z ?_)))))
 replace hst := hst.pull2
 obtain ⟨b352, v353, v355, v357, v359, v361, v363, v365, rfl, hst'⟩ := at_lane_State_open hst
 clear hst
 have hst := hst'
 clear hst'
 refine wv (.bool false) z z (by kernel_rfl) (wl_nil (tn ?_))
 refine wp_iff z ?_
 refine wp_skip (tn (wp_seq (wp_seq (wrl ?_))))
 refine wv (Pt b340 0) z z (x_field z underlying49 z sizeOf5 z) (wv (.int .u8 a2.Kind) z z (x_load z isAgg5 (hst.bc9 z)) (wl_nil (tn (wp_block (wp_seq (wrl (wv (.bool (a2.Kind == (1:Int))) z z z (wv (.bool (a2.Kind == (1:Int))) z z z (wl_nil (tn ?_))))))))))
 refine bsplit (a2.Kind == (1:Int)) (fun hc367 => ?_) (fun hc367 => ?_)
 {
 replace hm := bif_t hc367 hm
 refine wp_ift (cvb hc367) ?_
 refine wp_seq (wrl (wv (Pt b352 0) z z z (wv (.agg #[U1 a2.Kind, U6 a2.ID.Session, U6 a2.ID.Seq, U6 a2.Epoch, U6 a2.Index, I6 a2.E, U6 a2.Hold.ID.Session, U6 a2.Hold.ID.Seq, U6 a2.Hold.Epoch, r2_0, r2_1, r2_2, r2_3, r2_4, I6 a2.R.E, U6 a2.R.Epoch, U6 a2.R.Index, r2_5, r2_6, U6 a2.Shards, r2_7, U6 a2.Rule.ID, I6 a2.Rule.From, I6 a2.Rule.To, F6 a2.Rule.Lo, F6 a2.Rule.Hi, U6 a2.Rule.Authority, I6 a2.Rule.Quota, .bool a2.On]) z z (x_loadN (cs := [U1 a2.Kind, U6 a2.ID.Session, U6 a2.ID.Seq, U6 a2.Epoch, U6 a2.Index, I6 a2.E, U6 a2.Hold.ID.Session, U6 a2.Hold.ID.Seq, U6 a2.Hold.Epoch, r2_0, r2_1, r2_2, r2_3, r2_4, I6 a2.R.E, U6 a2.R.Epoch, U6 a2.R.Index, r2_5, r2_6, U6 a2.Shards, r2_7, U6 a2.Rule.ID, I6 a2.Rule.From, I6 a2.Rule.To, F6 a2.Rule.Lo, F6 a2.Rule.Hi, U6 a2.Rule.Authority, I6 a2.Rule.Quota, .bool a2.On]) z isAgg49 sizeOf49 (hst.bcs9 0 z)) ?_)))
 replace hst := hst.pull7.pull7.pull7.pull7.pull7.pull7.pull7.pull7
 replace hst := at_lane_State_close (pv := Pt b352 0) (x := o0) hst z
 replace hst := objO_some hst
 obtain ⟨t368, ht369, hm⟩ := bind_some hm
 refine wc call47 [Pt b352 0, .agg #[U1 a2.Kind, U6 a2.ID.Session, U6 a2.ID.Seq, U6 a2.Epoch, U6 a2.Index, I6 a2.E, U6 a2.Hold.ID.Session, U6 a2.Hold.ID.Seq, U6 a2.Hold.Epoch, r2_0, r2_1, r2_2, r2_3, r2_4, I6 a2.R.E, U6 a2.R.Epoch, U6 a2.R.Index, r2_5, r2_6, U6 a2.Shards, r2_7, U6 a2.Rule.ID, I6 a2.Rule.From, I6 a2.Rule.To, F6 a2.Rule.Lo, F6 a2.Rule.Hi, U6 a2.Rule.Authority, I6 a2.Rule.Quota, .bool a2.On]] z z z ?_
 refine (lane_State_shut_ref (f2_0.mono ro_rd) (f2_1.mono ro_rd) (f2_2.mono ro_rd) (f2_3.mono ro_rd) (f2_4.mono ro_rd) (f2_5.mono ro_rd) (f2_6.mono ro_rd) (f2_7.mono ro_rd) hst.to1 ht369).mono ?_
 rintro _ w370 ⟨I371, v373, v375, rfl, hI372, hst⟩
 refine ⟨_, z, ?_⟩
 replace hst := hst.of3
 replace f2_0 := f2_0.mono (ro_le hI372)
 replace f2_1 := f2_1.mono (ro_le hI372)
 replace f2_2 := f2_2.mono (ro_le hI372)
 replace f2_3 := f2_3.mono (ro_le hI372)
 replace f2_4 := f2_4.mono (ro_le hI372)
 replace f2_5 := f2_5.mono (ro_le hI372)
 replace f2_6 := f2_6.mono (ro_le hI372)
 replace f2_7 := f2_7.mono (ro_le hI372)
 replace hI0 := hI0.trans hI372
 replace hst := hst.pull2
 rcases he378 : t368.2 with _ | y377
 · rw [he378] at hm; cases hm
 rw [he378] at hm hst; dsimp only at hm; replace hst := objO_get hst
 replace hst := hst.pull3
 obtain ⟨w379, hr380, hst⟩ := hst.bx [U1 t368.1.Kind, U6 t368.1.ID.Session, U6 t368.1.ID.Seq, I6 t368.1.R.E, U6 t368.1.R.Epoch, U6 t368.1.R.Index, v373, v375] sizeOf35 z (oC z (oC z (oC z (oC z (oC z (oC z (oC (one_of_sliceV hst.sv2) (oC (one_of_sliceV hst.sv3) oN)))))))) (by kernel_rfl)
 refine wl_unit z z (x_unit hr380) ?_
 refine wl_nil (tn (wp_ret (blk_r (then_r ?_))))
 replace hst := hst.pull2
 obtain ⟨I381, hI382, f383, hst⟩ := hst.own_fix
 replace f2_0 := f2_0.mono (ro_le hI382)
 replace f2_1 := f2_1.mono (ro_le hI382)
 replace f2_2 := f2_2.mono (ro_le hI382)
 replace f2_3 := f2_3.mono (ro_le hI382)
 replace f2_4 := f2_4.mono (ro_le hI382)
 replace f2_5 := f2_5.mono (ro_le hI382)
 replace f2_6 := f2_6.mono (ro_le hI382)
 replace f2_7 := f2_7.mono (ro_le hI382)
 replace hI0 := hI0.trans hI382
 replace hst := hst.pull2
 obtain ⟨I384, hI385, f386, hst⟩ := hst.own_fix
 replace f2_0 := f2_0.mono (ro_le hI385)
 replace f2_1 := f2_1.mono (ro_le hI385)
 replace f2_2 := f2_2.mono (ro_le hI385)
 replace f2_3 := f2_3.mono (ro_le hI385)
 replace f2_4 := f2_4.mono (ro_le hI385)
 replace f2_5 := f2_5.mono (ro_le hI385)
 replace f2_6 := f2_6.mono (ro_le hI385)
 replace f2_7 := f2_7.mono (ro_le hI385)
 replace f383 := f383.mono (ro_le hI385)
 replace hI0 := hI0.trans hI385
 replace hst := hst.pull1
 replace hst := objO_some hst
 obtain rfl := some_inj hm
 refine post_ret (vs := [.agg #[U1 t368.1.Kind, U6 t368.1.ID.Session, U6 t368.1.ID.Seq, I6 t368.1.R.E, U6 t368.1.R.Epoch, U6 t368.1.R.Index, v373, v375]]) results14 (rvs_cons (rv_cell (cs := [U1 t368.1.Kind, U6 t368.1.ID.Session, U6 t368.1.ID.Seq, I6 t368.1.R.E, U6 t368.1.R.Epoch, U6 t368.1.R.Index, v373, v375]) z isAgg35 sizeOf35 (hst.bcs1 0 z)) rvs_nil) ?_
 exact ⟨_, v373, v375, z, hI0, f383, f386, hst.keep1⟩
}
 {
 replace hm := bif_f hc367 hm
 refine wp_iff (cvb hc367) ?_
 refine wp_seq (wrl (wv (.bool (a2.Kind == (2:Int))) z z z (wv (.bool (a2.Kind == (2:Int))) z z z (wl_nil (tn ?_)))))
 refine bsplit (a2.Kind == (2:Int)) (fun hc387 => ?_) (fun hc387 => ?_)
 {
 replace hm := bif_t hc387 hm
 refine wp_ift (cvb hc387) ?_
 refine wp_seq (wrl (wv (Pt b352 0) z z z (wv (.agg #[U1 a2.Kind, U6 a2.ID.Session, U6 a2.ID.Seq, U6 a2.Epoch, U6 a2.Index, I6 a2.E, U6 a2.Hold.ID.Session, U6 a2.Hold.ID.Seq, U6 a2.Hold.Epoch, r2_0, r2_1, r2_2, r2_3, r2_4, I6 a2.R.E, U6 a2.R.Epoch, U6 a2.R.Index, r2_5, r2_6, U6 a2.Shards, r2_7, U6 a2.Rule.ID, I6 a2.Rule.From, I6 a2.Rule.To, F6 a2.Rule.Lo, F6 a2.Rule.Hi, U6 a2.Rule.Authority, I6 a2.Rule.Quota, .bool a2.On]) z z (x_loadN (cs := [U1 a2.Kind, U6 a2.ID.Session, U6 a2.ID.Seq, U6 a2.Epoch, U6 a2.Index, I6 a2.E, U6 a2.Hold.ID.Session, U6 a2.Hold.ID.Seq, U6 a2.Hold.Epoch, r2_0, r2_1, r2_2, r2_3, r2_4, I6 a2.R.E, U6 a2.R.Epoch, U6 a2.R.Index, r2_5, r2_6, U6 a2.Shards, r2_7, U6 a2.Rule.ID, I6 a2.Rule.From, I6 a2.Rule.To, F6 a2.Rule.Lo, F6 a2.Rule.Hi, U6 a2.Rule.Authority, I6 a2.Rule.Quota, .bool a2.On]) z isAgg49 sizeOf49 (hst.bcs9 0 z)) ?_)))
 replace hst := hst.pull7.pull7.pull7.pull7.pull7.pull7.pull7.pull7
 replace hst := at_lane_State_close (pv := Pt b352 0) (x := o0) hst z
 replace hst := objO_some hst
 obtain ⟨t388, ht389, hm⟩ := bind_some hm
 refine wc call48 [Pt b352 0, .agg #[U1 a2.Kind, U6 a2.ID.Session, U6 a2.ID.Seq, U6 a2.Epoch, U6 a2.Index, I6 a2.E, U6 a2.Hold.ID.Session, U6 a2.Hold.ID.Seq, U6 a2.Hold.Epoch, r2_0, r2_1, r2_2, r2_3, r2_4, I6 a2.R.E, U6 a2.R.Epoch, U6 a2.R.Index, r2_5, r2_6, U6 a2.Shards, r2_7, U6 a2.Rule.ID, I6 a2.Rule.From, I6 a2.Rule.To, F6 a2.Rule.Lo, F6 a2.Rule.Hi, U6 a2.Rule.Authority, I6 a2.Rule.Quota, .bool a2.On]] z z z ?_
 refine (lane_State_prepare_ref (f2_0.mono ro_rd) (f2_1.mono ro_rd) (f2_2.mono ro_rd) (f2_3.mono ro_rd) (f2_4.mono ro_rd) (f2_5.mono ro_rd) (f2_6.mono ro_rd) (f2_7.mono ro_rd) hst.to1 ht389).mono ?_
 rintro _ w390 ⟨I391, v393, v395, rfl, hI392, hst⟩
 refine ⟨_, z, ?_⟩
 replace hst := hst.of3
 replace f2_0 := f2_0.mono (ro_le hI392)
 replace f2_1 := f2_1.mono (ro_le hI392)
 replace f2_2 := f2_2.mono (ro_le hI392)
 replace f2_3 := f2_3.mono (ro_le hI392)
 replace f2_4 := f2_4.mono (ro_le hI392)
 replace f2_5 := f2_5.mono (ro_le hI392)
 replace f2_6 := f2_6.mono (ro_le hI392)
 replace f2_7 := f2_7.mono (ro_le hI392)
 replace hI0 := hI0.trans hI392
 replace hst := hst.pull2
 rcases he398 : t388.2 with _ | y397
 · rw [he398] at hm; cases hm
 rw [he398] at hm hst; dsimp only at hm; replace hst := objO_get hst
 replace hst := hst.pull3
 obtain ⟨w399, hr400, hst⟩ := hst.bx [U1 t388.1.Kind, U6 t388.1.ID.Session, U6 t388.1.ID.Seq, I6 t388.1.R.E, U6 t388.1.R.Epoch, U6 t388.1.R.Index, v393, v395] sizeOf35 z (oC z (oC z (oC z (oC z (oC z (oC z (oC (one_of_sliceV hst.sv2) (oC (one_of_sliceV hst.sv3) oN)))))))) (by kernel_rfl)
 refine wl_unit z z (x_unit hr400) ?_
 refine wl_nil (tn (wp_ret (blk_r (then_r ?_))))
 replace hst := hst.pull2
 obtain ⟨I401, hI402, f403, hst⟩ := hst.own_fix
 replace f2_0 := f2_0.mono (ro_le hI402)
 replace f2_1 := f2_1.mono (ro_le hI402)
 replace f2_2 := f2_2.mono (ro_le hI402)
 replace f2_3 := f2_3.mono (ro_le hI402)
 replace f2_4 := f2_4.mono (ro_le hI402)
 replace f2_5 := f2_5.mono (ro_le hI402)
 replace f2_6 := f2_6.mono (ro_le hI402)
 replace f2_7 := f2_7.mono (ro_le hI402)
 replace hI0 := hI0.trans hI402
 replace hst := hst.pull2
 obtain ⟨I404, hI405, f406, hst⟩ := hst.own_fix
 replace f2_0 := f2_0.mono (ro_le hI405)
 replace f2_1 := f2_1.mono (ro_le hI405)
 replace f2_2 := f2_2.mono (ro_le hI405)
 replace f2_3 := f2_3.mono (ro_le hI405)
 replace f2_4 := f2_4.mono (ro_le hI405)
 replace f2_5 := f2_5.mono (ro_le hI405)
 replace f2_6 := f2_6.mono (ro_le hI405)
 replace f2_7 := f2_7.mono (ro_le hI405)
 replace f403 := f403.mono (ro_le hI405)
 replace hI0 := hI0.trans hI405
 replace hst := hst.pull1
 replace hst := objO_some hst
 obtain rfl := some_inj hm
 refine post_ret (vs := [.agg #[U1 t388.1.Kind, U6 t388.1.ID.Session, U6 t388.1.ID.Seq, I6 t388.1.R.E, U6 t388.1.R.Epoch, U6 t388.1.R.Index, v393, v395]]) results14 (rvs_cons (rv_cell (cs := [U1 t388.1.Kind, U6 t388.1.ID.Session, U6 t388.1.ID.Seq, I6 t388.1.R.E, U6 t388.1.R.Epoch, U6 t388.1.R.Index, v393, v395]) z isAgg35 sizeOf35 (hst.bcs1 0 z)) rvs_nil) ?_
 exact ⟨_, v393, v395, z, hI0, f403, f406, hst.keep1⟩
}
 {
 replace hm := bif_f hc387 hm
 refine wp_iff (cvb hc387) ?_
 refine wp_seq (wrl (wv (.bool (a2.Kind == (3:Int))) z z z (wv (.bool (a2.Kind == (3:Int))) z z z (wl_nil (tn ?_)))))
 refine bsplit (a2.Kind == (3:Int)) (fun hc407 => ?_) (fun hc407 => ?_)
 {
 replace hm := bif_t hc407 hm
 refine wp_ift (cvb hc407) ?_
 refine wp_seq (wrl (wv (Pt b352 0) z z z (wv (.agg #[U1 a2.Kind, U6 a2.ID.Session, U6 a2.ID.Seq, U6 a2.Epoch, U6 a2.Index, I6 a2.E, U6 a2.Hold.ID.Session, U6 a2.Hold.ID.Seq, U6 a2.Hold.Epoch, r2_0, r2_1, r2_2, r2_3, r2_4, I6 a2.R.E, U6 a2.R.Epoch, U6 a2.R.Index, r2_5, r2_6, U6 a2.Shards, r2_7, U6 a2.Rule.ID, I6 a2.Rule.From, I6 a2.Rule.To, F6 a2.Rule.Lo, F6 a2.Rule.Hi, U6 a2.Rule.Authority, I6 a2.Rule.Quota, .bool a2.On]) z z (x_loadN (cs := [U1 a2.Kind, U6 a2.ID.Session, U6 a2.ID.Seq, U6 a2.Epoch, U6 a2.Index, I6 a2.E, U6 a2.Hold.ID.Session, U6 a2.Hold.ID.Seq, U6 a2.Hold.Epoch, r2_0, r2_1, r2_2, r2_3, r2_4, I6 a2.R.E, U6 a2.R.Epoch, U6 a2.R.Index, r2_5, r2_6, U6 a2.Shards, r2_7, U6 a2.Rule.ID, I6 a2.Rule.From, I6 a2.Rule.To, F6 a2.Rule.Lo, F6 a2.Rule.Hi, U6 a2.Rule.Authority, I6 a2.Rule.Quota, .bool a2.On]) z isAgg49 sizeOf49 (hst.bcs9 0 z)) ?_)))
 replace hst := hst.pull7.pull7.pull7.pull7.pull7.pull7.pull7.pull7
 replace hst := at_lane_State_close (pv := Pt b352 0) (x := o0) hst z
 replace hst := objO_some hst
 obtain ⟨t408, ht409, hm⟩ := bind_some hm
 refine wc call49 [Pt b352 0, .agg #[U1 a2.Kind, U6 a2.ID.Session, U6 a2.ID.Seq, U6 a2.Epoch, U6 a2.Index, I6 a2.E, U6 a2.Hold.ID.Session, U6 a2.Hold.ID.Seq, U6 a2.Hold.Epoch, r2_0, r2_1, r2_2, r2_3, r2_4, I6 a2.R.E, U6 a2.R.Epoch, U6 a2.R.Index, r2_5, r2_6, U6 a2.Shards, r2_7, U6 a2.Rule.ID, I6 a2.Rule.From, I6 a2.Rule.To, F6 a2.Rule.Lo, F6 a2.Rule.Hi, U6 a2.Rule.Authority, I6 a2.Rule.Quota, .bool a2.On]] z z z ?_
 refine (lane_State_finish_ref (f2_0.mono ro_rd) (f2_1.mono ro_rd) (f2_2.mono ro_rd) (f2_3.mono ro_rd) (f2_4.mono ro_rd) (f2_5.mono ro_rd) (f2_6.mono ro_rd) (f2_7.mono ro_rd) hst.to1 ht409).mono ?_
 rintro _ w410 ⟨I411, v413, v415, rfl, hI412, hst⟩
 refine ⟨_, z, ?_⟩
 replace hst := hst.of3
 replace f2_0 := f2_0.mono (ro_le hI412)
 replace f2_1 := f2_1.mono (ro_le hI412)
 replace f2_2 := f2_2.mono (ro_le hI412)
 replace f2_3 := f2_3.mono (ro_le hI412)
 replace f2_4 := f2_4.mono (ro_le hI412)
 replace f2_5 := f2_5.mono (ro_le hI412)
 replace f2_6 := f2_6.mono (ro_le hI412)
 replace f2_7 := f2_7.mono (ro_le hI412)
 replace hI0 := hI0.trans hI412
 replace hst := hst.pull2
 rcases he418 : t408.2 with _ | y417
 · rw [he418] at hm; cases hm
 rw [he418] at hm hst; dsimp only at hm; replace hst := objO_get hst
 replace hst := hst.pull3
 obtain ⟨w419, hr420, hst⟩ := hst.bx [U1 t408.1.Kind, U6 t408.1.ID.Session, U6 t408.1.ID.Seq, I6 t408.1.R.E, U6 t408.1.R.Epoch, U6 t408.1.R.Index, v413, v415] sizeOf35 z (oC z (oC z (oC z (oC z (oC z (oC z (oC (one_of_sliceV hst.sv2) (oC (one_of_sliceV hst.sv3) oN)))))))) (by kernel_rfl)
 refine wl_unit z z (x_unit hr420) ?_
 refine wl_nil (tn (wp_ret (blk_r (then_r ?_))))
 replace hst := hst.pull2
 obtain ⟨I421, hI422, f423, hst⟩ := hst.own_fix
 replace f2_0 := f2_0.mono (ro_le hI422)
 replace f2_1 := f2_1.mono (ro_le hI422)
 replace f2_2 := f2_2.mono (ro_le hI422)
 replace f2_3 := f2_3.mono (ro_le hI422)
 replace f2_4 := f2_4.mono (ro_le hI422)
 replace f2_5 := f2_5.mono (ro_le hI422)
 replace f2_6 := f2_6.mono (ro_le hI422)
 replace f2_7 := f2_7.mono (ro_le hI422)
 replace hI0 := hI0.trans hI422
 replace hst := hst.pull2
 obtain ⟨I424, hI425, f426, hst⟩ := hst.own_fix
 replace f2_0 := f2_0.mono (ro_le hI425)
 replace f2_1 := f2_1.mono (ro_le hI425)
 replace f2_2 := f2_2.mono (ro_le hI425)
 replace f2_3 := f2_3.mono (ro_le hI425)
 replace f2_4 := f2_4.mono (ro_le hI425)
 replace f2_5 := f2_5.mono (ro_le hI425)
 replace f2_6 := f2_6.mono (ro_le hI425)
 replace f2_7 := f2_7.mono (ro_le hI425)
 replace f423 := f423.mono (ro_le hI425)
 replace hI0 := hI0.trans hI425
 replace hst := hst.pull1
 replace hst := objO_some hst
 obtain rfl := some_inj hm
 refine post_ret (vs := [.agg #[U1 t408.1.Kind, U6 t408.1.ID.Session, U6 t408.1.ID.Seq, I6 t408.1.R.E, U6 t408.1.R.Epoch, U6 t408.1.R.Index, v413, v415]]) results14 (rvs_cons (rv_cell (cs := [U1 t408.1.Kind, U6 t408.1.ID.Session, U6 t408.1.ID.Seq, I6 t408.1.R.E, U6 t408.1.R.Epoch, U6 t408.1.R.Index, v413, v415]) z isAgg35 sizeOf35 (hst.bcs1 0 z)) rvs_nil) ?_
 exact ⟨_, v413, v415, z, hI0, f423, f426, hst.keep1⟩
}
 {
 replace hm := bif_f hc407 hm
 refine wp_iff (cvb hc407) ?_
 refine wp_seq (wrl (wv (.bool (a2.Kind == (4:Int))) z z z (wv (.bool (a2.Kind == (4:Int))) z z z (wl_nil (tn ?_)))))
 refine bsplit (a2.Kind == (4:Int)) (fun hc427 => ?_) (fun hc427 => ?_)
 {
 replace hm := bif_t hc427 hm
 refine wp_ift (cvb hc427) ?_
 refine wp_seq (wrl (wv (Pt b352 0) z z z (wv (.int .u64 a1) z z z (wv (.agg #[U1 a2.Kind, U6 a2.ID.Session, U6 a2.ID.Seq, U6 a2.Epoch, U6 a2.Index, I6 a2.E, U6 a2.Hold.ID.Session, U6 a2.Hold.ID.Seq, U6 a2.Hold.Epoch, r2_0, r2_1, r2_2, r2_3, r2_4, I6 a2.R.E, U6 a2.R.Epoch, U6 a2.R.Index, r2_5, r2_6, U6 a2.Shards, r2_7, U6 a2.Rule.ID, I6 a2.Rule.From, I6 a2.Rule.To, F6 a2.Rule.Lo, F6 a2.Rule.Hi, U6 a2.Rule.Authority, I6 a2.Rule.Quota, .bool a2.On]) z z (x_loadN (cs := [U1 a2.Kind, U6 a2.ID.Session, U6 a2.ID.Seq, U6 a2.Epoch, U6 a2.Index, I6 a2.E, U6 a2.Hold.ID.Session, U6 a2.Hold.ID.Seq, U6 a2.Hold.Epoch, r2_0, r2_1, r2_2, r2_3, r2_4, I6 a2.R.E, U6 a2.R.Epoch, U6 a2.R.Index, r2_5, r2_6, U6 a2.Shards, r2_7, U6 a2.Rule.ID, I6 a2.Rule.From, I6 a2.Rule.To, F6 a2.Rule.Lo, F6 a2.Rule.Hi, U6 a2.Rule.Authority, I6 a2.Rule.Quota, .bool a2.On]) z isAgg49 sizeOf49 (hst.bcs9 0 z)) ?_))))
 replace hst := hst.pull7.pull7.pull7.pull7.pull7.pull7.pull7.pull7
 replace hst := at_lane_State_close (pv := Pt b352 0) (x := o0) hst z
 replace hst := objO_some hst
 obtain ⟨t428, ht429, hm⟩ := bind_some hm
 refine wc call50 [Pt b352 0, U6 a1, .agg #[U1 a2.Kind, U6 a2.ID.Session, U6 a2.ID.Seq, U6 a2.Epoch, U6 a2.Index, I6 a2.E, U6 a2.Hold.ID.Session, U6 a2.Hold.ID.Seq, U6 a2.Hold.Epoch, r2_0, r2_1, r2_2, r2_3, r2_4, I6 a2.R.E, U6 a2.R.Epoch, U6 a2.R.Index, r2_5, r2_6, U6 a2.Shards, r2_7, U6 a2.Rule.ID, I6 a2.Rule.From, I6 a2.Rule.To, F6 a2.Rule.Lo, F6 a2.Rule.Hi, U6 a2.Rule.Authority, I6 a2.Rule.Quota, .bool a2.On]] z z z ?_
 refine (lane_State_decide_ref f2_0 f2_1 f2_2 f2_3 f2_4 f2_5 f2_6 f2_7 hst.to1 ht429).mono ?_
 rintro _ w430 ⟨I431, v433, v436, rfl, hI432, f435, f438, hst⟩
 refine ⟨_, z, ?_⟩
 replace hst := hst.of1
 replace f2_0 := f2_0.mono (ro_le hI432)
 replace f2_1 := f2_1.mono (ro_le hI432)
 replace f2_2 := f2_2.mono (ro_le hI432)
 replace f2_3 := f2_3.mono (ro_le hI432)
 replace f2_4 := f2_4.mono (ro_le hI432)
 replace f2_5 := f2_5.mono (ro_le hI432)
 replace f2_6 := f2_6.mono (ro_le hI432)
 replace f2_7 := f2_7.mono (ro_le hI432)
 replace hI0 := hI0.trans hI432
 rcases he440 : t428.2 with _ | y439
 · rw [he440] at hm; cases hm
 rw [he440] at hm hst; dsimp only at hm; replace hst := objO_get hst
 replace hst := hst.pull1
 obtain ⟨w441, hr442, hst⟩ := hst.bx [U1 t428.1.Kind, U6 t428.1.ID.Session, U6 t428.1.ID.Seq, I6 t428.1.R.E, U6 t428.1.R.Epoch, U6 t428.1.R.Index, v433, v436] sizeOf35 z (oC z (oC z (oC z (oC z (oC z (oC z (oC (one_of_sliceV (ro_sliceV f435)) (oC (one_of_sliceV (ro_sliceV f438)) oN)))))))) (by kernel_rfl)
 refine wl_unit z z (x_unit hr442) ?_
 refine wl_nil (tn (wp_ret (blk_r (then_r ?_))))
 replace hst := hst.pull1
 replace hst := objO_some hst
 obtain rfl := some_inj hm
 refine post_ret (vs := [.agg #[U1 t428.1.Kind, U6 t428.1.ID.Session, U6 t428.1.ID.Seq, I6 t428.1.R.E, U6 t428.1.R.Epoch, U6 t428.1.R.Index, v433, v436]]) results14 (rvs_cons (rv_cell (cs := [U1 t428.1.Kind, U6 t428.1.ID.Session, U6 t428.1.ID.Seq, I6 t428.1.R.E, U6 t428.1.R.Epoch, U6 t428.1.R.Index, v433, v436]) z isAgg35 sizeOf35 (hst.bcs1 0 z)) rvs_nil) ?_
 exact ⟨_, v433, v436, z, hI0, f435, f438, hst.keep1⟩
}
 {
 replace hm := bif_f hc427 hm
 refine wp_iff (cvb hc427) ?_
 refine wp_seq (wrl (wv (.bool (a2.Kind == (5:Int))) z z z (wv (.bool (a2.Kind == (5:Int))) z z z (wl_nil (tn ?_)))))
 refine bsplit (a2.Kind == (5:Int)) (fun hc443 => ?_) (fun hc443 => ?_)
 {
 replace hm := bif_t hc443 hm
 refine wp_ift (cvb hc443) ?_
 refine wp_seq (wrl (wv (Pt b352 0) z z z (wv (Pt b340 1) z z (x_field z underlying49 z sizeOf28 z) (wv (.agg #[U6 a2.ID.Session, U6 a2.ID.Seq]) z z (x_loadN (cs := [U6 a2.ID.Session, U6 a2.ID.Seq]) z isAgg28 sizeOf28 (hst.bcs9 1 z)) ?_))))
 replace hst := hst.pull7.pull7.pull7.pull7.pull7.pull7.pull7.pull7
 replace hst := at_lane_State_close (pv := Pt b352 0) (x := o0) hst z
 replace hst := objO_some hst
 obtain ⟨t444, ht445, hm⟩ := bind_some hm
 refine wc call51 [Pt b352 0, .agg #[U6 a2.ID.Session, U6 a2.ID.Seq]] z z z ?_
 refine (lane_State_find_ref hst.to1 ht445).mono ?_
 rintro _ w446 ⟨rfl, hst⟩
 refine ⟨_, z, ?_⟩
 replace hst := hst.of1
 replace hst := objO_get hst
 refine wv (.tuple #[I6 t444.1, .bool t444.2]) z z z (wv (.int .i64 t444.1) z z z (wv (.bool t444.2) z z z (wv (.int .i64 t444.1) z z z (wv (.bool t444.2) z z z (wl_nil (tn (wp_seq (wrl (wv (.bool t444.2) z z z (wl_nil (tn ?_)))))))))))
 refine bsplit t444.2 (fun hc449 => ?_) (fun hc449 => ?_)
 {
 replace hm := bif_t hc449 hm
 refine wp_ift (cvb hc449) ?_
 refine wrl (wv (Pt b352 0) z z z (wv (Pt b352 0) z z z ?_))
 obtain ⟨b450, v451, v453, v455, v457, v459, v461, v463, e465, hst'⟩ := at_lane_State_open hst
 clear hst
 have e465 := ptr_inj e465
 subst e465
 have hst := hst'
 clear hst'
 refine wv (Pt b352 0) z z z (wv (Pt b352 6) z z (x_field z underlying111 z sizeOf65 z) (wv (v459) z z (x_load z isAgg65 (hst.bc0 z)) (wv (.int .i64 t444.1) z z z (wv (.int .i64 t444.1) z z z (wv (.int .i64 (i64.wrap (t444.1 + (1:Int)))) z z z ?_)))))
 replace hst := hst.pull5
 obtain ⟨t466, ht467, hm⟩ := bind_some hm
 refine wc call52 [v459, I6 t444.1, I6 (i64.wrap (t444.1 + (1:Int)))] z z z ?_
 refine (slices_Delete_api_Decision_api_Decision_ref hst.to1 ht467).mono ?_
 rintro _ w468 ⟨v471, rfl, hst⟩
 refine ⟨_, z, ?_⟩
 replace hst := hst.of1
 refine wv (Pt b352 0) z z z (wv (Pt b352 6) z z (x_field z underlying111 z sizeOf65 z) ?_)
 replace hst := hst.pull1
 obtain ⟨w473, hr474, hst⟩ := hst.boxStore1 (P := prog) (t := 65) (cs' := [I6 o0.wide, U6 o0.epoch, v451, v453, v455, v457, v471, v461, v463]) 6 v471 (one_of_sliceV hst.sv1) sizeOf65 z z
 refine wl_unit z z (x_unit hr474) ?_
 refine wl_nil (blk_n (tn (wp_seq (wrl (wv (.agg #[Zb, Zu, Zu, Zi, Zu, Zu, Zs, Zs]) z z (by kernel_rfl) ?_)))))
 replace hst := hst.pull8
 obtain ⟨w477, hr478, hst⟩ := hst.bx [Zb, Zu, Zu, Zi, Zu, Zu, Zs, Zs] sizeOf35 z (oC z (oC z (oC z (oC z (oC z (oC z (oC z (oC z oN)))))))) (by kernel_rfl)
 refine wl_unit z z (x_unit hr478) ?_
 refine wl_nil (tn (wp_ret ?_))
 have f479 : Ro ty_api_Got I (.slice none 0 0) [] := ro_nil
 have f480 : Ro (tySl ty_api_Pair) I (.slice none 0 0) [] := ro_nil
 replace hst := hst.pull8.pull8.pull4.pull8.pull8.pull8.pull8.pull8
 replace hst := at_lane_State_close (pv := Pt b352 0) (x := ({ wide := o0.wide, epoch := o0.epoch, store := o0.store, locks := o0.locks, last := o0.last, book := o0.book, open_ := t466, out := o0.out, used := o0.used } : lane_State)) hst z
 replace hst := objO_some hst
 obtain rfl := some_inj hm
 refine post_ret (vs := [.agg #[Zb, Zu, Zu, Zi, Zu, Zu, Zs, Zs]]) results14 (rvs_cons (rv_cell (cs := [Zb, Zu, Zu, Zi, Zu, Zu, Zs, Zs]) z isAgg35 sizeOf35 (hst.bcs1 0 z)) rvs_nil) ?_
 exact ⟨_, Zs, Zs, z, hI0, f479, f480, hst.keep1⟩
}
 {
 replace hm := bif_f hc449 hm
 refine wp_iff (cvb hc449) ?_
 refine wp_skip (blk_n (tn (wp_seq (wrl ?_))))
 refine wv (.agg #[Zb, Zu, Zu, Zi, Zu, Zu, Zs, Zs]) z z (by kernel_rfl) ?_
 replace hst := hst.pull1
 obtain ⟨w483, hr484, hst⟩ := hst.bx [Zb, Zu, Zu, Zi, Zu, Zu, Zs, Zs] sizeOf35 z (oC z (oC z (oC z (oC z (oC z (oC z (oC z (oC z oN)))))))) (by kernel_rfl)
 refine wl_unit z z (x_unit hr484) ?_
 refine wl_nil (tn (wp_ret ?_))
 have f485 : Ro ty_api_Got I (.slice none 0 0) [] := ro_nil
 have f486 : Ro (tySl ty_api_Pair) I (.slice none 0 0) [] := ro_nil
 replace hst := hst.pull1
 replace hst := objO_some hst
 obtain rfl := some_inj hm
 refine post_ret (vs := [.agg #[Zb, Zu, Zu, Zi, Zu, Zu, Zs, Zs]]) results14 (rvs_cons (rv_cell (cs := [Zb, Zu, Zu, Zi, Zu, Zu, Zs, Zs]) z isAgg35 sizeOf35 (hst.bcs1 0 z)) rvs_nil) ?_
 exact ⟨_, Zs, Zs, z, hI0, f485, f486, hst.keep1⟩
}
}
 {
 replace hm := bif_f hc443 hm
 refine wp_iff (cvb hc443) ?_
 refine wp_seq (wrl (wv (.bool (a2.Kind == (6:Int))) z z z (wv (.bool (a2.Kind == (6:Int))) z z z (wl_nil (tn ?_)))))
 refine bsplit (a2.Kind == (6:Int)) (fun hc487 => ?_) (fun hc487 => ?_)
 {
 replace hm := bif_t hc487 hm
 refine wp_ift (cvb hc487) ?_
 refine wp_seq (wrl (wv (Pt b340 28) z z (x_field z underlying49 z sizeOf4 z) (wv (.bool a2.On) z z (x_load z isAgg4 (hst.bc9 z)) (wl_nil (tn ?_)))))
 refine bsplit a2.On (fun hc488 => ?_) (fun hc488 => ?_)
 {
 replace hm := bif_t hc488 hm
 refine wp_ift (cvb hc488) ?_
 refine wp_region_St hst 11 [0, 1, 2, 3, 4, 5, 6, 7, 8, 9, 10] [0, 1, 3, 7, 0, 16, 0, 64, 192, 448, 1023] [] z (by kernel_rfl) (by kernel_rfl) Tryz.mixed (by kernel_rfl) ?_
 refine wsr (Pt b352 0) 0 z z z (by kernel_rfl) (fun w hst => z) (wsr (Pt b352 0) 1 z z z (by kernel_rfl) (fun w hst => z) (wsr (Pt b352 5) 2 z z z (by kernel_rfl) (fun w hst => x_field z underlying111 z sizeOf107 z) (wsr (v359) 3 z z z (by kernel_rfl) (fun w hst => x_load z isAgg107 (hst.bc0 z)) (wsr (Pt b340 21) 4 z z z (by kernel_rfl) (fun w hst => x_field z underlying49 z sizeOf39 z) (wsr (.agg #[U6 a2.Rule.ID, I6 a2.Rule.From, I6 a2.Rule.To, F6 a2.Rule.Lo, F6 a2.Rule.Hi, U6 a2.Rule.Authority, I6 a2.Rule.Quota]) 5 z z z (by kernel_rfl) (fun w hst => x_loadN (cs := [U6 a2.Rule.ID, I6 a2.Rule.From, I6 a2.Rule.To, F6 a2.Rule.Lo, F6 a2.Rule.Hi, U6 a2.Rule.Authority, I6 a2.Rule.Quota]) z isAgg39 sizeOf39 (hst.bcs9 21 z)) (wsr (Pt b352 0) 6 z z z (by kernel_rfl) (fun w hst => z) (wsr (Pt b352 0) 7 z z z (by kernel_rfl) (fun w hst => z) (wsr (Pt b352 1) 8 z z z (by kernel_rfl) (fun w hst => x_field z underlying111 z sizeOf26 z) (wsr (.int .u64 o0.epoch) 9 z z z (by kernel_rfl) (fun w hst => x_load z isAgg26 (hst.bc0 z)) ?_)))))))))
 refine ws_e1 10 (by kernel_rfl) ?_
 refine nxe [] (by kernel_rfl) z z ?_
 clear hst
 intro w hst
 replace hst := hst.pull4
 obtain ⟨t489, ht490, hm⟩ := bind_some hm
 refine wec call53 [v359, .agg #[U6 a2.Rule.ID, I6 a2.Rule.From, I6 a2.Rule.To, F6 a2.Rule.Lo, F6 a2.Rule.Hi, U6 a2.Rule.Authority, I6 a2.Rule.Quota], U6 o0.epoch] z z ?_
 refine (policy_Book_Grant_ref hst.to1 ht490).mono ?_
 rintro _ w491 ⟨rfl, hst⟩
 refine ⟨_, z, ?_⟩
 replace hst := hst.of1
 refine ws_next (pend' := []) hst (by kernel_rfl) pk_nil ?_
 refine ws_nil ?_
 intro w hst
 refine blk_n (tn (wp_seq (wrl ?_)))
 refine wv (.agg #[Zb, Zu, Zu, Zi, Zu, Zu, Zs, Zs]) z z (by kernel_rfl) ?_
 replace hst := hst.pull8
 obtain ⟨w496, hr497, hst⟩ := hst.bx [Zb, Zu, Zu, Zi, Zu, Zu, Zs, Zs] sizeOf35 z (oC z (oC z (oC z (oC z (oC z (oC z (oC z (oC z oN)))))))) (by kernel_rfl)
 refine wl_unit z z (x_unit hr497) ?_
 refine wl_nil (tn (wp_ret ?_))
 have f498 : Ro ty_api_Got I (.slice none 0 0) [] := ro_nil
 have f499 : Ro (tySl ty_api_Pair) I (.slice none 0 0) [] := ro_nil
 replace hst := hst.pull8.pull8.pull8.pull4.pull8.pull8.pull8.pull8
 replace hst := at_lane_State_close (pv := Pt b352 0) (x := ({ wide := o0.wide, epoch := o0.epoch, store := o0.store, locks := o0.locks, last := o0.last, book := t489, open_ := o0.open_, out := o0.out, used := o0.used } : lane_State)) hst z
 replace hst := objO_some hst
 obtain rfl := some_inj hm
 refine post_ret (vs := [.agg #[Zb, Zu, Zu, Zi, Zu, Zu, Zs, Zs]]) results14 (rvs_cons (rv_cell (cs := [Zb, Zu, Zu, Zi, Zu, Zu, Zs, Zs]) z isAgg35 sizeOf35 (hst.bcs1 0 z)) rvs_nil) ?_
 exact ⟨_, Zs, Zs, z, hI0, f498, f499, hst.keep1⟩
}
 {
 replace hm := bif_f hc488 hm
 refine wp_iff (cvb hc488) ?_
 refine wp_region_St hst 12 [0, 1, 2, 3, 4, 5, 6, 7, 8, 9, 10, 11] [0, 1, 3, 7, 0, 16, 48, 0, 128, 384, 896, 2047] [] z (by kernel_rfl) (by kernel_rfl) Tryz.mixed (by kernel_rfl) ?_
 refine wsr (Pt b352 0) 0 z z z (by kernel_rfl) (fun w hst => z) (wsr (Pt b352 0) 1 z z z (by kernel_rfl) (fun w hst => z) (wsr (Pt b352 5) 2 z z z (by kernel_rfl) (fun w hst => x_field z underlying111 z sizeOf107 z) (wsr (v359) 3 z z z (by kernel_rfl) (fun w hst => x_load z isAgg107 (hst.bc0 z)) (wsr (Pt b340 21) 4 z z z (by kernel_rfl) (fun w hst => x_field z underlying49 z sizeOf39 z) (wsr (Pt b340 21) 5 z z z (by kernel_rfl) (fun w hst => x_field z underlying39 z sizeOf26 z) (wsr (.int .u64 a2.Rule.ID) 6 z z z (by kernel_rfl) (fun w hst => x_load z isAgg26 (hst.bc9 z)) (wsr (Pt b352 0) 7 z z z (by kernel_rfl) (fun w hst => z) (wsr (Pt b352 0) 8 z z z (by kernel_rfl) (fun w hst => z) (wsr (Pt b352 1) 9 z z z (by kernel_rfl) (fun w hst => x_field z underlying111 z sizeOf26 z) (wsr (.int .u64 o0.epoch) 10 z z z (by kernel_rfl) (fun w hst => x_load z isAgg26 (hst.bc0 z)) ?_))))))))))
 refine ws_e1 11 (by kernel_rfl) ?_
 refine nxe [] (by kernel_rfl) z z ?_
 clear hst
 intro w hst
 replace hst := hst.pull4
 obtain ⟨t500, ht501, hm⟩ := bind_some hm
 refine wec call54 [v359, U6 a2.Rule.ID, U6 o0.epoch] z z ?_
 refine (policy_Book_Revoke_ref hst.to1 ht501).mono ?_
 rintro _ w502 ⟨rfl, hst⟩
 refine ⟨_, z, ?_⟩
 replace hst := hst.of1
 refine ws_next (pend' := []) hst (by kernel_rfl) pk_nil ?_
 refine ws_nil ?_
 intro w hst
 refine blk_n (tn (wp_seq (wrl ?_)))
 refine wv (.agg #[Zb, Zu, Zu, Zi, Zu, Zu, Zs, Zs]) z z (by kernel_rfl) ?_
 replace hst := hst.pull8
 obtain ⟨w507, hr508, hst⟩ := hst.bx [Zb, Zu, Zu, Zi, Zu, Zu, Zs, Zs] sizeOf35 z (oC z (oC z (oC z (oC z (oC z (oC z (oC z (oC z oN)))))))) (by kernel_rfl)
 refine wl_unit z z (x_unit hr508) ?_
 refine wl_nil (tn (wp_ret ?_))
 have f509 : Ro ty_api_Got I (.slice none 0 0) [] := ro_nil
 have f510 : Ro (tySl ty_api_Pair) I (.slice none 0 0) [] := ro_nil
 replace hst := hst.pull8.pull8.pull8.pull4.pull8.pull8.pull8.pull8
 replace hst := at_lane_State_close (pv := Pt b352 0) (x := ({ wide := o0.wide, epoch := o0.epoch, store := o0.store, locks := o0.locks, last := o0.last, book := t500.2, open_ := o0.open_, out := o0.out, used := o0.used } : lane_State)) hst z
 replace hst := objO_some hst
 obtain rfl := some_inj hm
 refine post_ret (vs := [.agg #[Zb, Zu, Zu, Zi, Zu, Zu, Zs, Zs]]) results14 (rvs_cons (rv_cell (cs := [Zb, Zu, Zu, Zi, Zu, Zu, Zs, Zs]) z isAgg35 sizeOf35 (hst.bcs1 0 z)) rvs_nil) ?_
 exact ⟨_, Zs, Zs, z, hI0, f509, f510, hst.keep1⟩
}
}
 {
 replace hm := bif_f hc487 hm
 refine wp_iff (cvb hc487) ?_
 refine wp_seq (wrl (wv (.bool (a2.Kind == (7:Int))) z z z (wv (.bool (a2.Kind == (7:Int))) z z z (wl_nil (tn ?_)))))
 refine bsplit (a2.Kind == (7:Int)) (fun hc511 => ?_) (fun hc511 => ?_)
 {
 replace hm := bif_t hc511 hm
 refine wp_ift (cvb hc511) ?_
 refine wp_seq (wrl (wv (Pt b352 0) z z z (wv (.int .u64 a1) z z z (wv (.agg #[U1 a2.Kind, U6 a2.ID.Session, U6 a2.ID.Seq, U6 a2.Epoch, U6 a2.Index, I6 a2.E, U6 a2.Hold.ID.Session, U6 a2.Hold.ID.Seq, U6 a2.Hold.Epoch, r2_0, r2_1, r2_2, r2_3, r2_4, I6 a2.R.E, U6 a2.R.Epoch, U6 a2.R.Index, r2_5, r2_6, U6 a2.Shards, r2_7, U6 a2.Rule.ID, I6 a2.Rule.From, I6 a2.Rule.To, F6 a2.Rule.Lo, F6 a2.Rule.Hi, U6 a2.Rule.Authority, I6 a2.Rule.Quota, .bool a2.On]) z z (x_loadN (cs := [U1 a2.Kind, U6 a2.ID.Session, U6 a2.ID.Seq, U6 a2.Epoch, U6 a2.Index, I6 a2.E, U6 a2.Hold.ID.Session, U6 a2.Hold.ID.Seq, U6 a2.Hold.Epoch, r2_0, r2_1, r2_2, r2_3, r2_4, I6 a2.R.E, U6 a2.R.Epoch, U6 a2.R.Index, r2_5, r2_6, U6 a2.Shards, r2_7, U6 a2.Rule.ID, I6 a2.Rule.From, I6 a2.Rule.To, F6 a2.Rule.Lo, F6 a2.Rule.Hi, U6 a2.Rule.Authority, I6 a2.Rule.Quota, .bool a2.On]) z isAgg49 sizeOf49 (hst.bcs9 0 z)) ?_))))
 replace hst := hst.pull7.pull7.pull7.pull7.pull7.pull7.pull7.pull7
 replace hst := at_lane_State_close (pv := Pt b352 0) (x := o0) hst z
 replace hst := objO_some hst
 obtain ⟨t512, ht513, hm⟩ := bind_some hm
 refine wc call55 [Pt b352 0, U6 a1, .agg #[U1 a2.Kind, U6 a2.ID.Session, U6 a2.ID.Seq, U6 a2.Epoch, U6 a2.Index, I6 a2.E, U6 a2.Hold.ID.Session, U6 a2.Hold.ID.Seq, U6 a2.Hold.Epoch, r2_0, r2_1, r2_2, r2_3, r2_4, I6 a2.R.E, U6 a2.R.Epoch, U6 a2.R.Index, r2_5, r2_6, U6 a2.Shards, r2_7, U6 a2.Rule.ID, I6 a2.Rule.From, I6 a2.Rule.To, F6 a2.Rule.Lo, F6 a2.Rule.Hi, U6 a2.Rule.Authority, I6 a2.Rule.Quota, .bool a2.On]] z z z ?_
 refine (lane_State_give_ref (f2_0.mono ro_rd) (f2_1.mono ro_rd) (f2_2.mono ro_rd) (f2_3.mono ro_rd) (f2_4.mono ro_rd) (f2_5.mono ro_rd) (f2_6.mono ro_rd) (f2_7.mono ro_rd) hst.to1 ht513).mono ?_
 rintro _ w514 ⟨I515, v517, v520, rfl, hI516, f519, f522, hst⟩
 refine ⟨_, z, ?_⟩
 replace hst := hst.of1
 replace f2_0 := f2_0.mono (ro_le hI516)
 replace f2_1 := f2_1.mono (ro_le hI516)
 replace f2_2 := f2_2.mono (ro_le hI516)
 replace f2_3 := f2_3.mono (ro_le hI516)
 replace f2_4 := f2_4.mono (ro_le hI516)
 replace f2_5 := f2_5.mono (ro_le hI516)
 replace f2_6 := f2_6.mono (ro_le hI516)
 replace f2_7 := f2_7.mono (ro_le hI516)
 replace hI0 := hI0.trans hI516
 rcases he524 : t512.2 with _ | y523
 · rw [he524] at hm; cases hm
 rw [he524] at hm hst; dsimp only at hm; replace hst := objO_get hst
 replace hst := hst.pull1
 obtain ⟨w525, hr526, hst⟩ := hst.bx [U1 t512.1.Kind, U6 t512.1.ID.Session, U6 t512.1.ID.Seq, I6 t512.1.R.E, U6 t512.1.R.Epoch, U6 t512.1.R.Index, v517, v520] sizeOf35 z (oC z (oC z (oC z (oC z (oC z (oC z (oC (one_of_sliceV (ro_sliceV f519)) (oC (one_of_sliceV (ro_sliceV f522)) oN)))))))) (by kernel_rfl)
 refine wl_unit z z (x_unit hr526) ?_
 refine wl_nil (tn (wp_ret (blk_r (then_r ?_))))
 replace hst := hst.pull1
 replace hst := objO_some hst
 obtain rfl := some_inj hm
 refine post_ret (vs := [.agg #[U1 t512.1.Kind, U6 t512.1.ID.Session, U6 t512.1.ID.Seq, I6 t512.1.R.E, U6 t512.1.R.Epoch, U6 t512.1.R.Index, v517, v520]]) results14 (rvs_cons (rv_cell (cs := [U1 t512.1.Kind, U6 t512.1.ID.Session, U6 t512.1.ID.Seq, I6 t512.1.R.E, U6 t512.1.R.Epoch, U6 t512.1.R.Index, v517, v520]) z isAgg35 sizeOf35 (hst.bcs1 0 z)) rvs_nil) ?_
 exact ⟨_, v517, v520, z, hI0, f519, f522, hst.keep1⟩
}
 {
 replace hm := bif_f hc511 hm
 refine wp_iff (cvb hc511) ?_
 refine wp_skip (blk_n (tn (wp_seq (wrl ?_))))
 refine wv (.agg #[Zb, Zu, Zu, Zi, Zu, Zu, Zs, Zs]) z z (by kernel_rfl) ?_
 replace hst := hst.pull8
 obtain ⟨w529, hr530, hst⟩ := hst.bx [Zb, Zu, Zu, Zi, Zu, Zu, Zs, Zs] sizeOf35 z (oC z (oC z (oC z (oC z (oC z (oC z (oC z (oC z oN)))))))) (by kernel_rfl)
 refine wl_unit z z (x_unit hr530) ?_
 refine wl_nil (tn (wp_ret ?_))
 have f531 : Ro ty_api_Got I (.slice none 0 0) [] := ro_nil
 have f532 : Ro (tySl ty_api_Pair) I (.slice none 0 0) [] := ro_nil
 replace hst := hst.pull8.pull8.pull8.pull8.pull8.pull8.pull8.pull8
 replace hst := at_lane_State_close (pv := Pt b352 0) (x := o0) hst z
 replace hst := objO_some hst
 obtain rfl := some_inj hm
 refine post_ret (vs := [.agg #[Zb, Zu, Zu, Zi, Zu, Zu, Zs, Zs]]) results14 (rvs_cons (rv_cell (cs := [Zb, Zu, Zu, Zi, Zu, Zu, Zs, Zs]) z isAgg35 sizeOf35 (hst.bcs1 0 z)) rvs_nil) ?_
 exact ⟨_, Zs, Zs, z, hI0, f531, f532, hst.keep1⟩
}
}
}
}
}
}
}
}
}

theorem lane_State_Epoch_ref {w0 w : World} {I : HL} {R : SP} {a0 : (Option lane_State)} {p0 : Value}  (hst : St w0 w I [objO at_lane_State p0 a0] R) {r : (Int)} (hm : lane_State_Epoch a0 = some r) :
  Calls prog 24 #[p0] w fun e w' => e = .returned (.int .u64 r) ∧ St w0 w' I [objO at_lane_State p0 a0] R := by {
 rcases a0 with _ | o0
 {
 obtain ⟨rfl, hst'⟩ := objO_none hst
 clear hst
 have hst := hst'
 clear hst'
 dsimp only [lane_State_Epoch] at hm
 refine calls_start (args := [.pointer none]) func24 z ntmps24 (Nat.le_of_ble_eq_true z) ?_
 refine wp_seq (wrl (wv (.int .u64 (0:Int)) z z z (wl_nil (tn (wp_seq (wp_seq (wrl (wv (.pointer none) z z z (wv (.bool true) z z (by kernel_rfl) (wl_nil (tn ?_)))))))))))
 refine wp_ift z ?_
 refine wp_seq (wrl (wv (.int .u64 (0:Int)) z z z (wl_nil (tn (wp_ret (then_r ?_))))))
 replace hst := hst.objO_nil at_lane_State
 obtain rfl := some_inj hm
 refine post_ret (vs := [Zu]) results24 (rvs_cons (rv_tmp z) rvs_nil) ?_
 exact ⟨z, hst.keep1⟩
}
 {
 replace hst := objO_get hst
 dsimp only [lane_State_Epoch] at hm
 refine calls_start (args := [p0]) func24 z ntmps24 (Nat.le_of_ble_eq_true z) ?_
 refine wp_seq (wrl (wv (.int .u64 (0:Int)) z z z (wl_nil (tn (wp_seq (wp_seq (wrl (wv (p0) z z z ?_))))))))
 obtain ⟨b207, v208, v210, v212, v214, v216, v218, v220, rfl, hst'⟩ := at_lane_State_open hst
 clear hst
 have hst := hst'
 clear hst'
 refine wv (.bool false) z z (by kernel_rfl) (wl_nil (tn ?_))
 refine wp_iff z ?_
 refine wp_skip (tn (wp_seq (wrl ?_)))
 refine wv (Pt b207 0) z z z (wv (Pt b207 0) z z z (wv (Pt b207 1) z z (x_field z underlying111 z sizeOf26 z) (wv (.int .u64 o0.epoch) z z (x_load z isAgg26 (hst.bc0 z)) (wv (.int .u64 o0.epoch) z z z (wl_nil (tn (wp_ret ?_)))))))
 replace hst := hst.pull7.pull7.pull7.pull7.pull7.pull7.pull7.pull7
 replace hst := at_lane_State_close (pv := Pt b207 0) (x := o0) hst z
 replace hst := objO_some hst
 obtain rfl := some_inj hm
 refine post_ret (vs := [U6 o0.epoch]) results24 (rvs_cons (rv_tmp z) rvs_nil) ?_
 exact ⟨z, hst.keep1⟩
}
}

theorem law16_awake_ref {w0 w : World} {I : HL} {R : SP}   (hst : St w0 w I [] R) {r : (Bool)} (hm : law16_awake = some r) :
  Calls prog 12 #[] w fun e w' => ∃ (I' : HL), e = .returned (.bool r) ∧ I.le I' ∧ St w0 w' I' [] R := by {
 unfold law16_awake at hm
 refine calls_start (args := []) func12 z ntmps12 (Nat.le_of_ble_eq_true z) ?_
 have hI0 := HL.le.refl I
 refine wp_seq (wrl (wv (.bool false) z z z (wl_nil (tn (wp_seq (wrl ?_))))))
 obtain ⟨t196, ht197, hm⟩ := bind_some hm
 refine wc call13 [I6 (4:Int)] z z z ?_
 refine (lane_New_ref hst.to0 ht197).mono ?_
 rintro _ w198 ⟨v201, rfl, hst⟩
 refine ⟨_, z, ?_⟩
 replace hst := hst.of1
 refine wv (v201) z z z (wl_nil (tn (wp_seq (wrl (wv (v201) z z z (wv (.agg #[U1 (1:Int), Zu, Zu, U6 (1:Int), Zu, Zi, Zu, Zu, Zu, Zs, Zs, Zs, Zs, Zs, Zi, Zu, Zu, Zs, Zs, Zu, Zs, Zu, Zi, Zi, Zf, Zf, Zu, Zi, .bool false]) z z (by kernel_rfl) ?_))))))
 replace hst := objO_some hst
 have f211 : Ro tyF64 I (.slice none 0 0) [] := ro_nil
 have f212 : Ro tyF2 I (.slice none 0 0) [] := ro_nil
 have f213 : Ro tyF64 I (.slice none 0 0) [] := ro_nil
 have f214 : Ro (tyInt .u8) I (.slice none 0 0) [] := ro_nil
 have f215 : Ro ty_api_Write I (.slice none 0 0) [] := ro_nil
 have f216 : Ro ty_api_Got I (.slice none 0 0) [] := ro_nil
 have f217 : Ro (tySl ty_api_Pair) I (.slice none 0 0) [] := ro_nil
 have f218 : Ro ty_api_Part I (.slice none 0 0) [] := ro_nil
 obtain ⟨t219, ht220, hm⟩ := bind_some hm
 refine wc call14 [v201, U6 (1:Int), .agg #[U1 (1:Int), Zu, Zu, U6 (1:Int), Zu, Zi, Zu, Zu, Zu, Zs, Zs, Zs, Zs, Zs, Zi, Zu, Zu, Zs, Zs, Zu, Zs, Zu, Zi, Zi, Zf, Zf, Zu, Zi, .bool false]] z z z ?_
 refine (lane_State_Apply_ref (a2 := ({ Kind := (1:Int), ID := ({ Session := (0:Int), Seq := (0:Int) } : api_ID), Epoch := (1:Int), Index := (0:Int), E := (0:Int), Hold := zero_api_Hold, Writes := [], R := zero_api_Reply, Shards := (0:Int), Parts := [], Rule := zero_api_Rule, On := false } : api_Command)) f211 f212 f213 f214 f215 f216 f217 f218 hst.to1 ht220).mono ?_
 rintro _ w221 ⟨I222, v224, v227, rfl, hI223, f226, f229, hst⟩
 refine ⟨_, z, ?_⟩
 replace hst := hst.of1
 replace f211 := f211.mono (ro_le hI223)
 replace f212 := f212.mono (ro_le hI223)
 replace f213 := f213.mono (ro_le hI223)
 replace f214 := f214.mono (ro_le hI223)
 replace f215 := f215.mono (ro_le hI223)
 replace f216 := f216.mono (ro_le hI223)
 replace f217 := f217.mono (ro_le hI223)
 replace f218 := f218.mono (ro_le hI223)
 replace hI0 := hI0.trans hI223
 rcases he231 : t219.2 with _ | y230
 · rw [he231] at hm; cases hm
 rw [he231] at hm hst; dsimp only at hm; replace hst := objO_get hst
 obtain ⟨b234, w235, ew236, eb237, hst⟩ := hst.box [Zb, Zu, Zu, Zi, Zu, Zu, Zs, Zs] 35
 refine wl_run (v := Pt b234 0) (w' := w235) z z (x_al (by kernel_rfl) ew236 eb237) ?_
 obtain ⟨w239, hr240, hst⟩ := hst.bx [U1 t219.1.Kind, U6 t219.1.ID.Session, U6 t219.1.ID.Seq, I6 t219.1.R.E, U6 t219.1.R.Epoch, U6 t219.1.R.Index, v224, v227] sizeOf35 z (oC z (oC z (oC z (oC z (oC z (oC z (oC (one_of_sliceV (ro_sliceV f226)) (oC (one_of_sliceV (ro_sliceV f229)) oN)))))))) (by kernel_rfl)
 refine wl_unit z z (x_unit hr240) ?_
 refine wl_nil (tn (wp_seq (wrl (wv (Pt b234 0) z z (x_field z underlying35 z sizeOf5 z) (wv (.int .u8 t219.1.Kind) z z (x_load z isAgg5 (hst.bc0 z)) (wv (.bool (t219.1.Kind == (1:Int))) z z z (wv (.bool (t219.1.Kind == (1:Int))) z z z ?_)))))))
 refine bsplit (t219.1.Kind == (1:Int)) (fun hc241 => ?_) (fun hc241 => ?_)
 {
 replace hm := bif_t hc241 hm
 refine wv (v201) ((wanted_eq z z z (cvb hc241)).trans z) z z ?_
 replace hst := hst.pull1
 replace hst := objO_some hst
 obtain ⟨t242, ht243, hm⟩ := bind_some hm
 refine wl_call ((wanted_eq z z z (cvb hc241)).trans z) z (x_call call24 z (vs := [v201]) z) ?_
 refine (lane_State_Epoch_ref hst.to1 ht243).mono ?_
 rintro _ w244 ⟨rfl, hst⟩
 refine ⟨_, z, ?_⟩
 replace hst := hst.of1
 replace hst := objO_get hst
 refine wv (.bool (t242 == (2:Int))) ((wanted_eq z z z (cvb hc241)).trans z) z z (wv (.bool (t242 == (2:Int))) z z (x_pick_t hc241 z z) (wv (.bool (t242 == (2:Int))) z z z ?_))
 refine bsplit (t242 == (2:Int)) (fun hc247 => ?_) (fun hc247 => ?_)
 {
 replace hm := bif_t hc247 hm
 refine wv (.bool true) z z (x_pick_t hc247 z z) (wv (.bool true) z z z (wl_nil (tn (wp_ret ?_))))
 obtain rfl := some_inj hm
 refine post_ret (vs := [.bool true]) results12 (rvs_cons (rv_tmp z) rvs_nil) ?_
 exact ⟨_, z, hI0, hst.keep0⟩
}
 {
 replace hm := bif_f hc247 hm
 refine wv (.bool false) z z (x_pick_f hc247 z z) (wv (.bool false) z z z (wl_nil (tn (wp_ret ?_))))
 obtain rfl := some_inj hm
 refine post_ret (vs := [.bool false]) results12 (rvs_cons (rv_tmp z) rvs_nil) ?_
 exact ⟨_, z, hI0, hst.keep0⟩
}
}
 {
 replace hm := bif_f hc241 hm
 refine wo hc241 z z z z z z (wo hc241 z z z z z z (wo hc241 z z z z z z (wv (.bool false) z z (x_pick_f hc241 z z) (wv (.bool false) z z z (wv (.bool false) z z (x_pick_f z z z) (wv (.bool false) z z z (wl_nil (tn (wp_ret ?_)))))))))
 obtain rfl := some_inj hm
 refine post_ret (vs := [.bool false]) results12 (rvs_cons (rv_tmp z) rvs_nil) ?_
 exact ⟨_, z, hI0, hst.keep0⟩
}
}

theorem lane_State_Now_ref {w0 w : World} {I : HL} {R : SP} {a0 : (Option lane_State)} {p0 : Value} {a1 : Nat}  (hst : St w0 w I [objO at_lane_State p0 a0] R) {r : (api_Got)} (hm : lane_State_Now a0 a1 = some r) :
  Calls prog 21 #[p0, F6 a1] w fun e w' => ∃ (q0_0 : Value), e = .returned (.agg #[.bool r.Has, q0_0]) ∧ St w0 w' I [ownS (tyInt .u8) q0_0 r.Val, objO at_lane_State p0 a0] R := by {
 rcases a0 with _ | o0
 {
 obtain ⟨rfl, hst'⟩ := objO_none hst
 clear hst
 have hst := hst'
 clear hst'
 dsimp only [lane_State_Now] at hm
 refine calls_start (args := [.pointer none, F6 a1]) func21 z ntmps21 (Nat.le_of_ble_eq_true z) ?_
 refine wp_seq (wrl ?_)
 obtain ⟨b205, w206, ew207, eb208, hst⟩ := hst.box [.bool false, Zs] 61
 refine wl_run (v := Pt b205 0) (w' := w206) z z (x_al (by kernel_rfl) ew207 eb208) ?_
 refine wl_nil (tn (wp_seq (wp_seq (wrl (wv (.pointer none) z z z (wv (.bool true) z z (by kernel_rfl) (wl_nil (tn ?_))))))))
 refine wp_ift z ?_
 refine wp_seq (wrl (wv (.agg #[.bool false, Zs]) z z (by kernel_rfl) ?_))
 obtain ⟨w211, hr212, hst⟩ := hst.bx [.bool false, Zs] sizeOf61 z (oC z (oC z oN)) (by kernel_rfl)
 refine wl_unit z z (x_unit hr212) ?_
 refine wl_nil (tn (wp_ret (then_r ?_)))
 replace hst := hst.own_nil (tyInt .u8)
 replace hst := hst.objO_nil at_lane_State
 obtain rfl := some_inj hm
 refine post_ret (vs := [.agg #[.bool false, Zs]]) results21 (rvs_cons (rv_cell (cs := [.bool false, Zs]) z isAgg61 sizeOf61 (hst.bcs2 0 z)) rvs_nil) ?_
 replace hst := hst.pull1
 exact ⟨(.slice none 0 0), z, hst.keep2⟩
}
 {
 replace hst := objO_get hst
 dsimp only [lane_State_Now] at hm
 refine calls_start (args := [p0, F6 a1]) func21 z ntmps21 (Nat.le_of_ble_eq_true z) ?_
 refine wp_seq (wrl ?_)
 obtain ⟨b214, w215, ew216, eb217, hst⟩ := hst.box [.bool false, Zs] 61
 refine wl_run (v := Pt b214 0) (w' := w215) z z (x_al (by kernel_rfl) ew216 eb217) ?_
 refine wl_nil (tn (wp_seq (wp_seq (wrl (wv (p0) z z z ?_)))))
 replace hst := hst.pull1
 obtain ⟨b219, v220, v222, v224, v226, v228, v230, v232, rfl, hst'⟩ := at_lane_State_open hst
 clear hst
 have hst := hst'
 clear hst'
 refine wv (.bool false) z z (by kernel_rfl) (wl_nil (tn ?_))
 refine wp_iff z ?_
 refine wp_skip (tn (wp_seq (wrl ?_)))
 refine wv (Pt b219 0) z z z (wv (Pt b219 0) z z z (wv (Pt b219 2) z z (x_field z underlying111 z sizeOf101 z) (wv (v220) z z (x_load z isAgg101 (hst.bc0 z)) (wv (.float .f64 a1) z z z ?_))))
 replace hst := hst.pull1
 obtain ⟨t234, ht235, hm⟩ := bind_some hm
 refine wc call60 [v220, F6 a1, U6 (18446744073709551615:Int)] z z z ?_
 refine (mvcc_Store_Get_ref hst.to1 ht235).mono ?_
 rintro _ w236 ⟨v239, rfl, hst⟩
 refine ⟨_, z, ?_⟩
 replace hst := hst.of2.pull9
 obtain ⟨w241, hr242, hst⟩ := hst.bx [.bool t234.Has, v239] sizeOf61 z (oC z (oC (one_of_sliceV hst.sv1) oN)) (by kernel_rfl)
 refine wl_unit z z (x_unit hr242) ?_
 refine wl_nil (tn (wp_ret ?_))
 replace hst := hst.pull9.pull9.pull9.pull9.pull9.pull9.pull8.pull9
 replace hst := at_lane_State_close (pv := Pt b219 0) (x := o0) hst z
 replace hst := objO_some hst
 obtain rfl := some_inj hm
 refine post_ret (vs := [.agg #[.bool t234.Has, v239]]) results21 (rvs_cons (rv_cell (cs := [.bool t234.Has, v239]) z isAgg61 sizeOf61 (hst.bcs1 0 z)) rvs_nil) ?_
 replace hst := hst.pull2
 exact ⟨v239, z, hst.keep2⟩
}
}

theorem law16_LaneHolds_ref {w0 w : World} {I : HL} {R : SP} {a0 : Nat} {a1 : Nat} {a2 : Int}  (hst : St w0 w I [] R) {r : (Bool)} (hm : law16_LaneHolds a0 a1 a2 = some r) :
  Calls prog 5 #[F6 a0, F6 a1, U6 a2] w fun e w' => ∃ (I' : HL), e = .returned (.bool r) ∧ I.le I' ∧ St w0 w' I' [] R := by {
 unfold law16_LaneHolds at hm
 refine calls_start (args := [F6 a0, F6 a1, U6 a2]) func5 z ntmps5 (Nat.le_of_ble_eq_true z) ?_
 have hI0 := HL.le.refl I
 refine wp_seq (wrl (wv (.bool false) z z z (wl_nil (tn (wp_seq (wrl ?_))))))
 obtain ⟨t170, ht171, hm⟩ := bind_some hm
 refine wc call13 [Zi] z z z ?_
 refine (lane_New_ref hst.to0 ht171).mono ?_
 rintro _ w172 ⟨v175, rfl, hst⟩
 refine ⟨_, z, ?_⟩
 replace hst := hst.of1
 refine wv (v175) z z z (wl_nil (tn (wp_seq (wrl (wv (.agg #[U6 (1:Int), U6 (1:Int)]) z z (by kernel_rfl) (wv (.float .f64 a0) z z z ?_))))))
 obtain ⟨b177, w178, ew179, eb180, hst⟩ := hst.lits (E := tyF64) (xs := [a0]) [[F6 a0]] 37 1 z (Reps.cons z Reps.nil)
 refine wl_run (v := (.slice (some ⟨b177, 0, none⟩) 1 1)) (w' := w178) z z (x_als (by kernel_rfl) ew179 eb180) ?_
 refine wv (.agg #[U6 (1:Int), U6 (1:Int), U6 (1:Int), Zs, Zs, (.slice (some ⟨b177, 0, none⟩) 1 1), Zs]) z z (by kernel_rfl) ?_
 obtain ⟨b190, w191, ew192, eb193, hst⟩ := hst.box [Zu, Zu, Zu, Zs, Zs, Zs, Zs] 46
 refine wl_run (v := Pt b190 0) (w' := w191) z z (x_al (by kernel_rfl) ew192 eb193) ?_
 obtain ⟨w195, hr196, hst⟩ := hst.bx [U6 (1:Int), U6 (1:Int), U6 (1:Int), Zs, Zs, (.slice (some ⟨b177, 0, none⟩) 1 1), Zs] sizeOf46 z (oC z (oC z (oC z (oC z (oC z (oC (one_of_sliceV hst.sv1) (oC z oN))))))) (by kernel_rfl)
 refine wl_unit z z (x_unit hr196) ?_
 refine wl_nil (tn (wp_seq (wrl (wv (.agg #[U6 (2:Int), U6 (1:Int)]) z z (by kernel_rfl) (wv (.float .f64 a1) z z z ?_)))))
 obtain ⟨b197, w198, ew199, eb200, hst⟩ := hst.lits (E := tyF64) (xs := [a1]) [[F6 a1]] 37 1 z (Reps.cons z Reps.nil)
 refine wl_run (v := (.slice (some ⟨b197, 0, none⟩) 1 1)) (w' := w198) z z (x_als (by kernel_rfl) ew199 eb200) ?_
 refine wv (.agg #[U6 (2:Int), U6 (1:Int), U6 (1:Int), (.slice (some ⟨b197, 0, none⟩) 1 1), Zs, Zs, Zs]) z z (by kernel_rfl) ?_
 obtain ⟨b210, w211, ew212, eb213, hst⟩ := hst.box [Zu, Zu, Zu, Zs, Zs, Zs, Zs] 46
 refine wl_run (v := Pt b210 0) (w' := w211) z z (x_al (by kernel_rfl) ew212 eb213) ?_
 obtain ⟨w215, hr216, hst⟩ := hst.bx [U6 (2:Int), U6 (1:Int), U6 (1:Int), (.slice (some ⟨b197, 0, none⟩) 1 1), Zs, Zs, Zs] sizeOf46 z (oC z (oC z (oC z (oC (one_of_sliceV hst.sv1) (oC z (oC z (oC z oN))))))) (by kernel_rfl)
 refine wl_unit z z (x_unit hr216) ?_
 refine wl_nil (tn (wp_seq (wrl (wv (v175) z z z (wv (.agg #[U6 (1:Int), U6 (1:Int), U6 (1:Int), Zs, Zs, (.slice (some ⟨b177, 0, none⟩) 1 1), Zs]) z z (x_loadN (cs := [U6 (1:Int), U6 (1:Int), U6 (1:Int), Zs, Zs, (.slice (some ⟨b177, 0, none⟩) 1 1), Zs]) z isAgg46 sizeOf46 (hst.bcs2 0 z)) ?_)))))
 replace hst := hst.pull4
 replace hst := objO_some hst
 have f217 : Ro tyF64 I (.slice none 0 0) [] := ro_nil
 have f218 : Ro tyF2 I (.slice none 0 0) [] := ro_nil
 have f219 : Ro (tyInt .u8) I (.slice none 0 0) [] := ro_nil
 replace hst := hst.pull4
 obtain ⟨css220, hq221, hst⟩ := hst.own_open
 replace hst := hst.pull1
 obtain ⟨t222, ht223, hm⟩ := bind_some hm
 refine wc call19 [v175, .agg #[U6 (1:Int), U6 (1:Int), U6 (1:Int), Zs, Zs, (.slice (some ⟨b177, 0, none⟩) 1 1), Zs]] z z z ?_
 refine (lane_State_Hold_ref (a1 := ({ ID := ({ Session := (1:Int), Seq := (1:Int) } : api_ID), Epoch := (1:Int), Gets := [], Scans := [], Puts := [a0], Data := [] } : api_Hold)) (f217.mono ro_rd) (f218.mono ro_rd) (hst.sub.rdrow0 hq221) (f219.mono ro_rd) hst.to1 ht223).mono ?_
 rintro _ w224 ⟨I225, rfl, hI226, hst⟩
 refine ⟨_, z, ?_⟩
 replace hst := hst.of1
 replace f217 := f217.mono (ro_le hI226)
 replace f218 := f218.mono (ro_le hI226)
 replace f219 := f219.mono (ro_le hI226)
 replace hI0 := hI0.trans hI226
 replace hst := hst.pull1.own_close (hq221.imp fun _ _ => Ty.mono _ (ro_le hI226))
 replace hst := hst.pull1
 rcases he228 : t222.2 with _ | y227
 · rw [he228] at hm; cases hm
 rw [he228] at hm hst; dsimp only at hm; replace hst := objO_get hst
 refine wv (.int .i64 t222.1) z z z (wl_nil (tn (wp_seq (wrl (wv (v175) z z z (wv (.agg #[U6 (2:Int), U6 (1:Int), U6 (1:Int), (.slice (some ⟨b197, 0, none⟩) 1 1), Zs, Zs, Zs]) z z (x_loadN (cs := [U6 (2:Int), U6 (1:Int), U6 (1:Int), (.slice (some ⟨b197, 0, none⟩) 1 1), Zs, Zs, Zs]) z isAgg46 sizeOf46 (hst.bcs2 0 z)) ?_))))))
 replace hst := objO_some hst
 have f229 : Ro tyF2 I225 (.slice none 0 0) [] := ro_nil
 have f230 : Ro tyF64 I225 (.slice none 0 0) [] := ro_nil
 have f231 : Ro (tyInt .u8) I225 (.slice none 0 0) [] := ro_nil
 replace hst := hst.pull3
 obtain ⟨css232, hq233, hst⟩ := hst.own_open
 replace hst := hst.pull1
 obtain ⟨t234, ht235, hm⟩ := bind_some hm
 refine wc call19 [v175, .agg #[U6 (2:Int), U6 (1:Int), U6 (1:Int), (.slice (some ⟨b197, 0, none⟩) 1 1), Zs, Zs, Zs]] z z z ?_
 refine (lane_State_Hold_ref (a1 := ({ ID := ({ Session := (2:Int), Seq := (1:Int) } : api_ID), Epoch := (1:Int), Gets := [a1], Scans := [], Puts := [], Data := [] } : api_Hold)) (hst.sub.rdrow0 hq233) (f229.mono ro_rd) (f230.mono ro_rd) (f231.mono ro_rd) hst.to1 ht235).mono ?_
 rintro _ w236 ⟨I237, rfl, hI238, hst⟩
 refine ⟨_, z, ?_⟩
 replace hst := hst.of1
 replace f217 := f217.mono (ro_le hI238)
 replace f218 := f218.mono (ro_le hI238)
 replace f219 := f219.mono (ro_le hI238)
 replace f229 := f229.mono (ro_le hI238)
 replace f230 := f230.mono (ro_le hI238)
 replace f231 := f231.mono (ro_le hI238)
 replace hI0 := hI0.trans hI238
 replace hst := hst.pull1.own_close (hq233.imp fun _ _ => Ty.mono _ (ro_le hI238))
 replace hst := hst.pull1
 rcases he240 : t234.2 with _ | y239
 · rw [he240] at hm; cases hm
 rw [he240] at hm hst; dsimp only at hm; replace hst := objO_get hst
 refine wv (.int .i64 t234.1) z z z (wl_nil (tn (wp_seq (wrl (wv (.agg #[U6 (2:Int), U6 (1:Int), U6 (1:Int), (.slice (some ⟨b197, 0, none⟩) 1 1), Zs, Zs, Zs]) z z (x_loadN (cs := [U6 (2:Int), U6 (1:Int), U6 (1:Int), (.slice (some ⟨b197, 0, none⟩) 1 1), Zs, Zs, Zs]) z isAgg46 sizeOf46 (hst.bcs3 0 z)) ?_)))))
 obtain ⟨b245, w246, ew247, eb248, hst⟩ := hst.box [Zu, Zu, Zu, Zs, Zs, Zs, Zs] 46
 refine wl_run (v := Pt b245 0) (w' := w246) z z (x_al (by kernel_rfl) ew247 eb248) ?_
 obtain ⟨w250, hr251, hst⟩ := hst.bx [U6 (2:Int), U6 (1:Int), U6 (1:Int), (.slice (some ⟨b197, 0, none⟩) 1 1), Zs, Zs, Zs] sizeOf46 z (oC z (oC z (oC z (oC (one_of_sliceV hst.sv2) (oC (one_of_sliceV (ro_sliceV f229)) (oC (one_of_sliceV (ro_sliceV f230)) (oC (one_of_sliceV (ro_sliceV f231)) oN))))))) (by kernel_rfl)
 refine wl_unit z z (x_unit hr251) ?_
 refine wl_nil (tn (wp_seq (wrl (wv (.int .u64 a2) z z z (wv (Pt b245 2) z z (x_field z underlying46 z sizeOf26 z) ?_)))))
 obtain ⟨w252, hr253, hst⟩ := hst.by_ [U6 (2:Int), U6 (1:Int), U6 a2, (.slice (some ⟨b197, 0, none⟩) 1 1), Zs, Zs, Zs] 2 (.int .u64 a2) sizeOf26 z (oC z oN) (by kernel_rfl)
 refine wl_unit z z (x_unit hr253) ?_
 refine wl_nil (tn (wp_seq (wrl (wv (Pt b245 0) z z (x_field z underlying46 z sizeOf28 z) (wv (Pt b245 0) z z (x_field z underlying28 z sizeOf26 z) ?_)))))
 obtain ⟨w254, hr255, hst⟩ := hst.by_ [U6 (3:Int), U6 (1:Int), U6 a2, (.slice (some ⟨b197, 0, none⟩) 1 1), Zs, Zs, Zs] 0 (.int .u64 (3:Int)) sizeOf26 z (oC z oN) (by kernel_rfl)
 refine wl_unit z z (x_unit hr255) ?_
 refine wl_nil (tn (wp_seq (wrl (wv (v175) z z z (wv (.agg #[U6 (3:Int), U6 (1:Int), U6 a2, (.slice (some ⟨b197, 0, none⟩) 1 1), Zs, Zs, Zs]) z z (x_loadN (cs := [U6 (3:Int), U6 (1:Int), U6 a2, (.slice (some ⟨b197, 0, none⟩) 1 1), Zs, Zs, Zs]) z isAgg46 sizeOf46 (hst.bcs0 0 z)) ?_)))))
 replace hst := hst.pull1
 replace hst := objO_some hst
 replace hst := hst.pull2
 obtain ⟨css256, hq257, hst⟩ := hst.own_open
 replace hst := hst.pull1
 obtain ⟨t258, ht259, hm⟩ := bind_some hm
 refine wc call19 [v175, .agg #[U6 (3:Int), U6 (1:Int), U6 a2, (.slice (some ⟨b197, 0, none⟩) 1 1), Zs, Zs, Zs]] z z z ?_
 refine (lane_State_Hold_ref (a1 := ({ ID := ({ Session := (3:Int), Seq := (1:Int) } : api_ID), Epoch := a2, Gets := [a1], Scans := [], Puts := [], Data := [] } : api_Hold)) (hst.sub.rdrow0 hq257) (f229.mono ro_rd) (f230.mono ro_rd) (f231.mono ro_rd) hst.to1 ht259).mono ?_
 rintro _ w260 ⟨I261, rfl, hI262, hst⟩
 refine ⟨_, z, ?_⟩
 replace hst := hst.of1
 replace f217 := f217.mono (ro_le hI262)
 replace f218 := f218.mono (ro_le hI262)
 replace f219 := f219.mono (ro_le hI262)
 replace f229 := f229.mono (ro_le hI262)
 replace f230 := f230.mono (ro_le hI262)
 replace f231 := f231.mono (ro_le hI262)
 replace hI0 := hI0.trans hI262
 replace hst := hst.pull1.own_close (hq257.imp fun _ _ => Ty.mono _ (ro_le hI262))
 replace hst := hst.pull1
 rcases he264 : t258.2 with _ | y263
 · rw [he264] at hm; cases hm
 rw [he264] at hm hst; dsimp only at hm; replace hst := objO_get hst
 refine wv (.int .i64 t258.1) z z z (wl_nil (tn (wp_seq (wrl (wv (.int .i64 (0:Int)) z z z (wl_nil (tn ?_)))))))
 obtain ⟨y274, hm, hx275⟩ := bind_some hm
 refine wp_cut (fun a w => ∃ (z271 : Int) (σ272 : Nat → Value), (law16_LaneHolds_j0 a2 y263 t222 t234 t258 a1 a0) z271 = some r ∧ a = Fr 78 (upd (upd (upd (upd (upd (upd (upd (upd (upd σ272 0 (.float .f64 a0)) 2 (.int .u64 a2)) 7 (v175)) 8 (Pt b190 0)) 9 (Pt b210 0)) 10 (.int .i64 t222.1)) 11 (.int .i64 t234.1)) 13 (.int .i64 t258.1)) 14 (.int .i64 z271)) ∧ St w0 w I261 [at_lane_State v175 y263, cells b190 [U6 (1:Int), U6 (1:Int), U6 (1:Int), Zs, Zs, (.slice (some ⟨b177, 0, none⟩) 1 1), Zs], ownS tyF64 (.slice (some ⟨b177, 0, none⟩) 1 1) ([a0]), cells b210 [U6 (2:Int), U6 (1:Int), U6 (1:Int), (.slice (some ⟨b197, 0, none⟩) 1 1), Zs, Zs, Zs], ownS tyF64 (.slice (some ⟨b197, 0, none⟩) 1 1) ([a1])] R) ?_ ?_
 {
 refine wp_seq (wrl (wv (.float .f64 a0) z z z (wv (.float .f64 a1) z z z ?_)))
 obtain ⟨t265, ht266, hm⟩ := bind_some hm
 refine wc call20 [F6 a0, F6 a1] z z z ?_
 refine (ref01_Same_ref hst.to0 ht266).mono ?_
 rintro _ w267 ⟨rfl, hst⟩
 refine ⟨_, z, ?_⟩
 replace hst := hst.of0
 refine wl_nil (tn ?_)
 refine bsplit t265 (fun hc270 => ?_) (fun hc270 => ?_)
 {
 replace hm := bif_t hc270 hm
 refine wp_ift (cvb hc270) ?_
 refine wrl (wv (.int .i64 (8:Int)) z z z (wl_nil (tn ?_)))
 replace hst := hst.pull1.pull4.pull4.pull5.pull4.keep5
 obtain rfl := some_inj hm
 exact ⟨(8:Int), _, hx275, (fu 0 (.float .f64 a0) z (fu 2 (.int .u64 a2) z (fu 7 v175 z (fu 8 (Pt b190 0) z (fu 9 (Pt b210 0) z (fu 10 (.int .i64 t222.1) z (fu 11 (.int .i64 t234.1) z (fu 13 (.int .i64 t258.1) z (fu 14 (.int .i64 (8:Int)) z z))))))))), hst⟩
}
 {
 replace hm := bif_f hc270 hm
 refine wp_iff (cvb hc270) ?_
 refine wp_skip (tn ?_)
 replace hst := hst.pull1.pull4.pull4.pull5.pull4.keep5
 obtain rfl := some_inj hm
 exact ⟨(0:Int), _, hx275, (fu 0 (.float .f64 a0) z (fu 2 (.int .u64 a2) z (fu 7 v175 z (fu 8 (Pt b190 0) z (fu 9 (Pt b210 0) z (fu 10 (.int .i64 t222.1) z (fu 11 (.int .i64 t234.1) z (fu 13 (.int .i64 t258.1) z (fu 14 (.int .i64 (0:Int)) z z))))))))), hst⟩
}
}
 {
 clear hst
 rintro _ w276 ⟨z271, σ272, hm, rfl, hst⟩
 dsimp only [law16_LaneHolds_j0] at hm
 refine wp_seq (wrl (wv (.int .i64 z271) z z z (wv (.int .i64 z271) z z z (wl_nil (tn ?_)))))
 obtain ⟨y281, hm, hx282⟩ := bind_some hm
 refine wp_cut (fun a w => ∃ (z278 : Int) (σ279 : Nat → Value), (law16_LaneHolds_j1 y263 t222 t234 z271 t258 a1 a0) z278 = some r ∧ a = Fr 78 (upd (upd (upd (upd (upd (upd (upd (upd (upd σ279 0 (.float .f64 a0)) 7 (v175)) 8 (Pt b190 0)) 9 (Pt b210 0)) 10 (.int .i64 t222.1)) 11 (.int .i64 t234.1)) 13 (.int .i64 t258.1)) 14 (.int .i64 z271)) 15 (.int .i64 z278)) ∧ St w0 w I261 [at_lane_State v175 y263, cells b190 [U6 (1:Int), U6 (1:Int), U6 (1:Int), Zs, Zs, (.slice (some ⟨b177, 0, none⟩) 1 1), Zs], ownS tyF64 (.slice (some ⟨b177, 0, none⟩) 1 1) ([a0]), cells b210 [U6 (2:Int), U6 (1:Int), U6 (1:Int), (.slice (some ⟨b197, 0, none⟩) 1 1), Zs, Zs, Zs], ownS tyF64 (.slice (some ⟨b197, 0, none⟩) 1 1) ([a1])] R) ?_ ?_
 {
 refine wp_seq (wrl (wv (.int .u64 a2) z z z (wv (.bool (a2 != (1:Int))) z z z (wl_nil (tn ?_)))))
 refine bsplit (a2 != (1:Int)) (fun hc277 => ?_) (fun hc277 => ?_)
 {
 replace hm := bif_t hc277 hm
 refine wp_ift (cvb hc277) ?_
 refine wrl (wv (.int .i64 (9:Int)) z z z (wl_nil (tn ?_)))
 replace hst := hst.pull4.pull4.pull4.pull4.pull4.keep5
 obtain rfl := some_inj hm
 exact ⟨(9:Int), _, hx282, (fu 0 (.float .f64 a0) z (fu 7 v175 z (fu 8 (Pt b190 0) z (fu 9 (Pt b210 0) z (fu 10 (.int .i64 t222.1) z (fu 11 (.int .i64 t234.1) z (fu 13 (.int .i64 t258.1) z (fu 14 (.int .i64 z271) z (fu 15 (.int .i64 (9:Int)) z z))))))))), hst⟩
}
 {
 replace hm := bif_f hc277 hm
 refine wp_iff (cvb hc277) ?_
 refine wp_skip (tn ?_)
 replace hst := hst.pull4.pull4.pull4.pull4.pull4.keep5
 obtain rfl := some_inj hm
 exact ⟨z271, _, hx282, (fu 0 (.float .f64 a0) z (fu 7 v175 z (fu 8 (Pt b190 0) z (fu 9 (Pt b210 0) z (fu 10 (.int .i64 t222.1) z (fu 11 (.int .i64 t234.1) z (fu 13 (.int .i64 t258.1) z (fu 14 (.int .i64 z271) z (fu 15 (.int .i64 z271) z z))))))))), hst⟩
}
}
 {
 clear hst
 rintro _ w283 ⟨z278, σ279, hm, rfl, hst⟩
 dsimp only [law16_LaneHolds_j1] at hm
 refine wp_seq (wrl (wv (v175) z z z (wv (Pt b190 0) z z (x_field z underlying46 z sizeOf28 z) (wv (.agg #[U6 (1:Int), U6 (1:Int)]) z z (x_loadN (cs := [U6 (1:Int), U6 (1:Int)]) z isAgg28 sizeOf28 (hst.bcs1 0 z)) (wv (.agg #[U1 (3:Int), U6 (1:Int), U6 (1:Int), Zu, Zu, I6 (8:Int), Zu, Zu, Zu, Zs, Zs, Zs, Zs, Zs, Zi, Zu, Zu, Zs, Zs, Zu, Zs, Zu, Zi, Zi, Zf, Zf, Zu, Zi, .bool false]) z z (by kernel_rfl) ?_)))))
 replace hst := objO_some hst
 have f292 : Ro tyF64 I261 (.slice none 0 0) [] := ro_nil
 have f293 : Ro tyF2 I261 (.slice none 0 0) [] := ro_nil
 have f294 : Ro tyF64 I261 (.slice none 0 0) [] := ro_nil
 have f295 : Ro (tyInt .u8) I261 (.slice none 0 0) [] := ro_nil
 have f296 : Ro ty_api_Write I261 (.slice none 0 0) [] := ro_nil
 have f297 : Ro ty_api_Got I261 (.slice none 0 0) [] := ro_nil
 have f298 : Ro (tySl ty_api_Pair) I261 (.slice none 0 0) [] := ro_nil
 have f299 : Ro ty_api_Part I261 (.slice none 0 0) [] := ro_nil
 obtain ⟨t300, ht301, hm⟩ := bind_some hm
 refine wc call14 [v175, U6 (5:Int), .agg #[U1 (3:Int), U6 (1:Int), U6 (1:Int), Zu, Zu, I6 (8:Int), Zu, Zu, Zu, Zs, Zs, Zs, Zs, Zs, Zi, Zu, Zu, Zs, Zs, Zu, Zs, Zu, Zi, Zi, Zf, Zf, Zu, Zi, .bool false]] z z z ?_
 refine (lane_State_Apply_ref (a2 := ({ Kind := (3:Int), ID := ({ Session := (1:Int), Seq := (1:Int) } : api_ID), Epoch := (0:Int), Index := (0:Int), E := (8:Int), Hold := zero_api_Hold, Writes := [], R := zero_api_Reply, Shards := (0:Int), Parts := [], Rule := zero_api_Rule, On := false } : api_Command)) f292 f293 f294 f295 f296 f297 f298 f299 hst.to1 ht301).mono ?_
 rintro _ w302 ⟨I303, v305, v308, rfl, hI304, f307, f310, hst⟩
 refine ⟨_, z, ?_⟩
 replace hst := hst.of1
 replace f217 := f217.mono (ro_le hI304)
 replace f218 := f218.mono (ro_le hI304)
 replace f219 := f219.mono (ro_le hI304)
 replace f229 := f229.mono (ro_le hI304)
 replace f230 := f230.mono (ro_le hI304)
 replace f231 := f231.mono (ro_le hI304)
 replace f292 := f292.mono (ro_le hI304)
 replace f293 := f293.mono (ro_le hI304)
 replace f294 := f294.mono (ro_le hI304)
 replace f295 := f295.mono (ro_le hI304)
 replace f296 := f296.mono (ro_le hI304)
 replace f297 := f297.mono (ro_le hI304)
 replace f298 := f298.mono (ro_le hI304)
 replace f299 := f299.mono (ro_le hI304)
 replace hI0 := hI0.trans hI304
 rcases he312 : t300.2 with _ | y311
 · rw [he312] at hm; cases hm
 rw [he312] at hm hst; dsimp only at hm; replace hst := objO_get hst
 refine wl_nil (tn (wp_seq (wrl ?_)))
 obtain ⟨t313, ht314, hm⟩ := bind_some hm
 refine wc call12 [] z z z ?_
 refine (law16_awake_ref hst.to0 ht314).mono ?_
 rintro _ w315 ⟨I316, rfl, hI317, hst⟩
 refine ⟨_, z, ?_⟩
 replace hst := hst.of0
 replace f217 := f217.mono (ro_le hI317)
 replace f218 := f218.mono (ro_le hI317)
 replace f219 := f219.mono (ro_le hI317)
 replace f229 := f229.mono (ro_le hI317)
 replace f230 := f230.mono (ro_le hI317)
 replace f231 := f231.mono (ro_le hI317)
 replace f292 := f292.mono (ro_le hI317)
 replace f293 := f293.mono (ro_le hI317)
 replace f294 := f294.mono (ro_le hI317)
 replace f295 := f295.mono (ro_le hI317)
 replace f296 := f296.mono (ro_le hI317)
 replace f297 := f297.mono (ro_le hI317)
 replace f298 := f298.mono (ro_le hI317)
 replace f299 := f299.mono (ro_le hI317)
 replace f307 := f307.mono (ro_le hI317)
 replace f310 := f310.mono (ro_le hI317)
 replace hI0 := hI0.trans hI317
 refine wv (.bool t313) z z z ?_
 refine bsplit t313 (fun hc318 => ?_) (fun hc318 => ?_)
 {
 replace hm := bif_t hc318 hm
 refine wv (.int .i64 t222.1) ((wanted_eq z z z (cvb hc318)).trans z) z z (wv (.bool (t222.1 == (0:Int))) ((wanted_eq z z z (cvb hc318)).trans z) z z (wv (.bool (t222.1 == (0:Int))) z z (x_pick_t hc318 z z) (wv (.bool (t222.1 == (0:Int))) z z z ?_)))
 refine bsplit (t222.1 == (0:Int)) (fun hc319 => ?_) (fun hc319 => ?_)
 {
 replace hm := bif_t hc319 hm
 refine wv (.int .i64 t234.1) ((wanted_eq z z z (cvb hc319)).trans z) z z (wv (.int .i64 z271) ((wanted_eq z z z (cvb hc319)).trans z) z z (wv (.bool (t234.1 == z271)) ((wanted_eq z z z (cvb hc319)).trans z) z z (wv (.bool (t234.1 == z271)) z z (x_pick_t hc319 z z) (wv (.bool (t234.1 == z271)) z z z ?_))))
 refine bsplit (t234.1 == z271) (fun hc320 => ?_) (fun hc320 => ?_)
 {
 replace hm := bif_t hc320 hm
 refine wv (.int .i64 t258.1) ((wanted_eq z z z (cvb hc320)).trans z) z z (wv (.int .i64 z278) ((wanted_eq z z z (cvb hc320)).trans z) z z (wv (.bool (t258.1 == z278)) ((wanted_eq z z z (cvb hc320)).trans z) z z (wv (.bool (t258.1 == z278)) z z (x_pick_t hc320 z z) (wv (.bool (t258.1 == z278)) z z z ?_))))
 refine bsplit (t258.1 == z278) (fun hc321 => ?_) (fun hc321 => ?_)
 {
 replace hm := bif_t hc321 hm
 refine wv (v175) ((wanted_eq z z z (cvb hc321)).trans z) z z (wv (.agg #[U6 (2:Int), U6 (1:Int), U6 (1:Int), (.slice (some ⟨b197, 0, none⟩) 1 1), Zs, Zs, Zs]) ((wanted_eq z z z (cvb hc321)).trans z) z (x_loadN (cs := [U6 (2:Int), U6 (1:Int), U6 (1:Int), (.slice (some ⟨b197, 0, none⟩) 1 1), Zs, Zs, Zs]) z isAgg46 sizeOf46 (hst.bcs3 0 z)) ?_)
 replace hst := objO_some hst
 replace hst := hst.pull4
 obtain ⟨css322, hq323, hst⟩ := hst.own_open
 replace hst := hst.pull1
 obtain ⟨t324, ht325, hm⟩ := bind_some hm
 refine wl_call ((wanted_eq z z z (cvb hc321)).trans z) z (x_call call19 z (vs := [v175, .agg #[U6 (2:Int), U6 (1:Int), U6 (1:Int), (.slice (some ⟨b197, 0, none⟩) 1 1), Zs, Zs, Zs]]) z) ?_
 refine (lane_State_Hold_ref (a1 := ({ ID := ({ Session := (2:Int), Seq := (1:Int) } : api_ID), Epoch := (1:Int), Gets := [a1], Scans := [], Puts := [], Data := [] } : api_Hold)) (hst.sub.rdrow0 hq323) (f229.mono ro_rd) (f230.mono ro_rd) (f231.mono ro_rd) hst.to1 ht325).mono ?_
 rintro _ w326 ⟨I327, rfl, hI328, hst⟩
 refine ⟨_, z, ?_⟩
 replace hst := hst.of1
 replace f217 := f217.mono (ro_le hI328)
 replace f218 := f218.mono (ro_le hI328)
 replace f219 := f219.mono (ro_le hI328)
 replace f229 := f229.mono (ro_le hI328)
 replace f230 := f230.mono (ro_le hI328)
 replace f231 := f231.mono (ro_le hI328)
 replace f292 := f292.mono (ro_le hI328)
 replace f293 := f293.mono (ro_le hI328)
 replace f294 := f294.mono (ro_le hI328)
 replace f295 := f295.mono (ro_le hI328)
 replace f296 := f296.mono (ro_le hI328)
 replace f297 := f297.mono (ro_le hI328)
 replace f298 := f298.mono (ro_le hI328)
 replace f299 := f299.mono (ro_le hI328)
 replace f307 := f307.mono (ro_le hI328)
 replace f310 := f310.mono (ro_le hI328)
 replace hI0 := hI0.trans hI328
 replace hst := hst.pull1.own_close (hq323.imp fun _ _ => Ty.mono _ (ro_le hI328))
 replace hst := hst.pull1
 rcases he330 : t324.2 with _ | y329
 · rw [he330] at hm; cases hm
 rw [he330] at hm hst; dsimp only at hm; replace hst := objO_get hst
 refine wv (.bool (t324.1 == (0:Int))) ((wanted_eq z z z (cvb hc321)).trans z) z z (wv (.bool (t324.1 == (0:Int))) z z (x_pick_t hc321 z z) (wv (.bool (t324.1 == (0:Int))) z z z ?_))
 refine bsplit (t324.1 == (0:Int)) (fun hc331 => ?_) (fun hc331 => ?_)
 {
 replace hm := bif_t hc331 hm
 refine wv (v175) ((wanted_eq z z z (cvb hc331)).trans z) z z (wv (.float .f64 a0) ((wanted_eq z z z (cvb hc331)).trans z) z z ?_)
 replace hst := objO_some hst
 obtain ⟨t332, ht333, hm⟩ := bind_some hm
 refine wl_call ((wanted_eq z z z (cvb hc331)).trans z) z (x_call call21 z (vs := [v175, F6 a0]) z) ?_
 refine (lane_State_Now_ref hst.to1 ht333).mono ?_
 rintro _ w334 ⟨v337, rfl, hst⟩
 refine ⟨_, z, ?_⟩
 replace hst := hst.of2.pull1
 replace hst := objO_get hst
 refine wv (.bool t332.Has) ((wanted_eq z z z (cvb hc331)).trans z) z (by obtain ⟨_, _, hv_, _⟩ := hst.sv1; rw [hv_]; kernel_rfl) (wv (.bool (!t332.Has)) ((wanted_eq z z z (cvb hc331)).trans z) z z (wv (.bool (!t332.Has)) z z (x_pick_t hc331 z z) (wv (.bool (!t332.Has)) z z z (wl_nil (tn (wp_ret ?_))))))
 obtain rfl := some_inj hm
 refine post_ret (vs := [.bool (!t332.Has)]) results5 (rvs_cons (rv_tmp z) rvs_nil) ?_
 exact ⟨_, z, hI0, hst.keep0⟩
}
 {
 replace hm := bif_f hc331 hm
 refine wo hc331 z z z z z z (wo hc331 z z z z z z (wo hc331 z z z z z z (wo hc331 z z z z z z (wo hc331 z z z z z z (wv (.bool false) z z (x_pick_f hc331 z z) (wv (.bool false) z z z (wl_nil (tn (wp_ret ?_)))))))))
 obtain rfl := some_inj hm
 refine post_ret (vs := [.bool false]) results5 (rvs_cons (rv_tmp z) rvs_nil) ?_
 exact ⟨_, z, hI0, hst.keep0⟩
}
}
 {
 replace hm := bif_f hc321 hm
 refine wo hc321 z z z z z z (wo hc321 z z z z z z (wo hc321 z z z z z z (wo hc321 z z z z z z (wv (.bool false) z z (x_pick_f hc321 z z) (wv (.bool false) z z z (wz z z z z z z (wz z z z z z z (wz z z z z z z (wz z z z z z z (wz z z z z z z (wv (.bool false) z z (x_pick_f z z z) (wv (.bool false) z z z ?_))))))))))))
 refine wl_nil (tn (wp_ret ?_))
 obtain rfl := some_inj hm
 refine post_ret (vs := [.bool false]) results5 (rvs_cons (rv_tmp z) rvs_nil) ?_
 exact ⟨_, z, hI0, hst.keep0⟩
}
}
 {
 replace hm := bif_f hc320 hm
 refine wo hc320 z z z z z z (wo hc320 z z z z z z (wo hc320 z z z z z z (wv (.bool false) z z (x_pick_f hc320 z z) (wv (.bool false) z z z (wz z z z z z z (wz z z z z z z (wz z z z z z z (wz z z z z z z (wv (.bool false) z z (x_pick_f z z z) (wv (.bool false) z z z (wz z z z z z z (wz z z z z z z ?_))))))))))))
 refine wz z z z z z z (wz z z z z z z (wz z z z z z z (wv (.bool false) z z (x_pick_f z z z) (wv (.bool false) z z z (wl_nil (tn (wp_ret ?_)))))))
 obtain rfl := some_inj hm
 refine post_ret (vs := [.bool false]) results5 (rvs_cons (rv_tmp z) rvs_nil) ?_
 exact ⟨_, z, hI0, hst.keep0⟩
}
}
 {
 replace hm := bif_f hc319 hm
 refine wo hc319 z z z z z z (wo hc319 z z z z z z (wo hc319 z z z z z z (wv (.bool false) z z (x_pick_f hc319 z z) (wv (.bool false) z z z (wz z z z z z z (wz z z z z z z (wz z z z z z z (wv (.bool false) z z (x_pick_f z z z) (wv (.bool false) z z z (wz z z z z z z (wz z z z z z z (wz z z z z z z ?_))))))))))))
 refine wz z z z z z z (wv (.bool false) z z (x_pick_f z z z) (wv (.bool false) z z z (wz z z z z z z (wz z z z z z z (wz z z z z z z (wz z z z z z z (wz z z z z z z (wv (.bool false) z z (x_pick_f z z z) (wv (.bool false) z z z (wl_nil (tn (wp_ret ?_))))))))))))
 obtain rfl := some_inj hm
 refine post_ret (vs := [.bool false]) results5 (rvs_cons (rv_tmp z) rvs_nil) ?_
 exact ⟨_, z, hI0, hst.keep0⟩
}
}
 {
 replace hm := bif_f hc318 hm
 refine wo hc318 z z z z z z (wo hc318 z z z z z z (wv (.bool false) z z (x_pick_f hc318 z z) (wv (.bool false) z z z (wz z z z z z z (wz z z z z z z (wz z z z z z z (wv (.bool false) z z (x_pick_f z z z) (wv (.bool false) z z z (wz z z z z z z (wz z z z z z z (wz z z z z z z (wv (.bool false) z z (x_pick_f z z z) ?_))))))))))))
 refine wv (.bool false) z z z (wz z z z z z z (wz z z z z z z (wz z z z z z z (wz z z z z z z (wv (.bool false) z z (x_pick_f z z z) (wv (.bool false) z z z (wz z z z z z z (wz z z z z z z (wz z z z z z z (wz z z z z z z (wz z z z z z z (wv (.bool false) z z (x_pick_f z z z) ?_))))))))))))
 refine wv (.bool false) z z z (wl_nil (tn (wp_ret ?_)))
 obtain rfl := some_inj hm
 refine post_ret (vs := [.bool false]) results5 (rvs_cons (rv_tmp z) rvs_nil) ?_
 exact ⟨_, z, hI0, hst.keep0⟩
}
}
}
}

end Go.Proofs.YtgnkkopjkgdieaaGreat
