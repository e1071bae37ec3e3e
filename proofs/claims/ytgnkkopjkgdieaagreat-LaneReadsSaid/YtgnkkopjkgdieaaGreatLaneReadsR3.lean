/- The Go functions refine their models, part 3. -/
import Derived.Test.YtgnkkopjkgdieaaGreatLaneReadsR2
set_option linter.unusedVariables false
set_option linter.unusedSimpArgs false
set_option maxRecDepth 100000
set_option maxHeartbeats 4000000
namespace Go.Proofs.YtgnkkopjkgdieaaGreat
open Go Go.V
open _root_.Go.Proofs.Tryz IntKind
attribute [local irreducible] wpList Code.wp wpQuiet Calls bodyPost Oper.wp wpS Nx PendOK YieldsIn
theorem ref11_Held_ref {w0 w : World} {I : HL} {R : SP} {a0 : (List api_Hold)} {r0_0 : Value} {a1 : api_ID} (f0_0 : Ro ty_api_Hold I r0_0 a0) (hst : St w0 w I [] R) {r : (api_Hold × Bool)} (hm : ref11_Held a0 a1 = some r) :
  Calls prog 70 #[r0_0, .agg #[U6 a1.Session, U6 a1.Seq]] w fun e w' => ∃ (I' : HL) (q0_0 : Value) (q0_1 : Value) (q0_2 : Value) (q0_3 : Value), e = .returned (.tuple #[.agg #[U6 r.1.ID.Session, U6 r.1.ID.Seq, U6 r.1.Epoch, q0_0, q0_1, q0_2, q0_3], .bool r.2]) ∧ I.le I' ∧ Ro tyF64 I' q0_0 r.1.Gets ∧ Ro tyF2 I' q0_1 r.1.Scans ∧ Ro tyF64 I' q0_2 r.1.Puts ∧ Ro (tyInt .u8) I' q0_3 r.1.Data ∧ St w0 w' I' [] R := by {
 unfold ref11_Held at hm
 refine calls_start (args := [r0_0, .agg #[U6 a1.Session, U6 a1.Seq]]) func70 z ntmps70 (Nat.le_of_ble_eq_true z) ?_
 have hI0 := HL.le.refl I
 refine wp_seq (wrl ?_)
 obtain ⟨b434, w435, ew436, eb437, hst⟩ := hst.box [U6 a1.Session, U6 a1.Seq] 28
 refine wl_run (v := Pt b434 0) (w' := w435) z z (x_al (by kernel_rfl) ew436 eb437) ?_
 obtain ⟨b443, w444, ew445, eb446, hst⟩ := hst.box [Zu, Zu, Zu, Zs, Zs, Zs, Zs] 46
 refine wl_run (v := Pt b443 0) (w' := w444) z z (x_al (by kernel_rfl) ew445 eb446) ?_
 refine wv (.bool false) z z z (wl_nil (tn (wp_seq (wp_seq (wrl (wv (.int .i64 (0:Int)) z z z (wl_nil (tn (wp_block ?_)))))))))
 obtain ⟨n499, hm⟩ := loopO_some hm
 refine wp_loop_n (fun n a w => ∃ (z497 : Int) (σ498 : Nat → Value), loopN (ref11_Held_l0 a0 a1) n z497 = some r ∧ a = Fr 25 (upd (upd (upd (upd σ498 0 (r0_0)) 3 (Pt b434 0)) 4 (Pt b443 0)) 6 (.int .i64 z497)) ∧ St w0 w I [cells b443 [Zu, Zu, Zu, Zs, Zs, Zs, Zs], cells b434 [U6 a1.Session, U6 a1.Seq]] R) n499 ⟨(0:Int), _, hm, (fu 0 r0_0 z (fu 3 (Pt b434 0) z (fu 4 (Pt b443 0) z (fu 6 (.int .i64 (0:Int)) z z)))), hst⟩ ?_
 rintro n505 _ w500 ⟨z497, σ498, hm, rfl, hst⟩
 obtain ⟨n502, y503, rfl, hm, hx504⟩ := loopN_some hm
 dsimp only [ref11_Held_l0] at hm
 refine wp_seq (wp_seq (wrl (wv (.int .i64 z497) z z z (wv (r0_0) z z z (wv (.int .i64 ((a0).length : Int)) z z (x_len z underlying125 (ro_sliceV f0_0)) (wv (.bool (decide (z497 < ((a0).length : Int)))) z z z (wl_nil (tn ?_))))))))
 refine bsplit (decide (z497 < ((a0).length : Int))) (fun hc506 => ?_) (fun hc506 => ?_)
 {
 replace hm := bif_t hc506 hm
 refine wp_ift (cvb hc506) ?_
 refine wp_skip (tn (wp_seq (wp_block (wp_seq ?_))))
 refine wq_regionS hst Tryz.mixed (by kernel_rfl) ?_
 refine wq_run (v := r0_0) z z (fun w hst => z) ?_
 refine wq_run (v := .int .i64 z497) z z (fun w hst => z) ?_
 obtain ⟨x507, hx508, hm⟩ := bind_some hm
 obtain ⟨h509, h510, hi511⟩ := geto_some hx508
 refine wq_run (v := .pointer (some (eAddr r0_0 (z497.toNat * 7 + 0)))) z z (fun w hst => x_index z z underlying125 sizeOf46 (ro_sliceV f0_0) h509 h510) ?_
 refine wq_run (v := .pointer (some (eAddr r0_0 (z497.toNat * 7 + 0)))) z z (fun w hst => x_field_e z underlying46 z sizeOf28 z) ?_
 obtain ⟨cs512, hr513, hc514⟩ := Ro.getF f0_0 hi511
 obtain ⟨v515, v518, v521, v524, rfl, f516, f519, f522, f525, -⟩ := hr513
 refine wq_run (v := .agg #[U6 x507.ID.Session, U6 x507.ID.Seq]) z z (fun w hst => x_loadN (cs := [U6 x507.ID.Session, U6 x507.ID.Seq]) z isAgg28 sizeOf28 (eCells (o := 0) (hc514 (HL.le.refl _) hst) z)) ?_
 refine wq_run (v := .agg #[U6 a1.Session, U6 a1.Seq]) z z (fun w hst => x_loadN (cs := [U6 a1.Session, U6 a1.Seq]) z isAgg28 sizeOf28 (hst.bcs1 0 z)) ?_
 refine wq_run (v := .bool ((x507.ID.Session == a1.Session) && (x507.ID.Seq == a1.Seq))) z z (fun w hst => x_aggeq2 z z (by kernel_rfl) underlying28 (by kernel_rfl) (by kernel_rfl) (by kernel_rfl) underlying26 underlying26 (fun _ _ _ => by kernel_rfl) (fun _ _ _ => by kernel_rfl)) ?_
 refine wq_nil ?_
 intro w hst
 refine tn ?_
 refine bsplit ((x507.ID.Session == a1.Session) && (x507.ID.Seq == a1.Seq)) (fun hc527 => ?_) (fun hc527 => ?_)
 {
 replace hm := bif_t hc527 hm
 refine wp_ift (cvb hc527) ?_
 refine wp_seq (wrl (wv (r0_0) z z z (wv (.int .i64 z497) z z z (wv (.pointer (some (eAddr r0_0 (z497.toNat * 7 + 0)))) z z (x_index z z underlying125 sizeOf46 (ro_sliceV f0_0) h509 h510) (wv (.agg #[U6 x507.ID.Session, U6 x507.ID.Seq, U6 x507.Epoch, v515, v518, v521, v524]) z z (x_loadN (cs := [U6 x507.ID.Session, U6 x507.ID.Seq, U6 x507.Epoch, v515, v518, v521, v524]) z isAgg46 sizeOf46 (eCells (o := 0) (hc514 (HL.le.refl _) hst) z)) ?_)))))
 obtain ⟨w528, hr529, hst⟩ := hst.bx [U6 x507.ID.Session, U6 x507.ID.Seq, U6 x507.Epoch, v515, v518, v521, v524] sizeOf46 z (oC z (oC z (oC z (oC (one_of_sliceV (ro_sliceV f516)) (oC (one_of_sliceV (ro_sliceV f519)) (oC (one_of_sliceV (ro_sliceV f522)) (oC (one_of_sliceV (ro_sliceV f525)) oN))))))) (by kernel_rfl)
 refine wl_unit z z (x_unit hr529) ?_
 refine wv (.bool true) z z z (wl_nil (tn (wp_ret (blk_r (then_r (then_r ?_))))))
 replace hm := inr_up hm hx504
 refine blk_r (then_r ?_)
 obtain rfl := some_inj hm
 refine post_ret (vs := [.agg #[U6 x507.ID.Session, U6 x507.ID.Seq, U6 x507.Epoch, v515, v518, v521, v524], .bool true]) results70 (rvs_cons (rv_cell (cs := [U6 x507.ID.Session, U6 x507.ID.Seq, U6 x507.Epoch, v515, v518, v521, v524]) z isAgg46 sizeOf46 (hst.bcs0 0 z)) (rvs_cons (rv_tmp z) rvs_nil)) ?_
 exact ⟨_, v515, v518, v521, v524, z, hI0, f516, f519, f522, f525, hst.keep0⟩
}
 {
 replace hm := bif_f hc527 hm
 refine wp_iff (cvb hc527) ?_
 refine wp_skip (blk_n (tn (wrl ?_)))
 refine wv (.int .i64 z497) z z z (wv (.int .i64 (i64.wrap (z497 + (1:Int)))) z z z (wv (.int .i64 (i64.wrap (z497 + (1:Int)))) z z z (wl_nil (tn ?_))))
 replace hst := hst.pull1.pull1.keep2
 obtain rfl := some_inj hm
 exact ⟨_, Nat.lt_succ_self _, (i64.wrap (z497 + (1:Int))), _, hx504, (fu 0 r0_0 z (fu 3 (Pt b434 0) z (fu 4 (Pt b443 0) z (fu 6 (.int .i64 (i64.wrap (z497 + (1:Int)))) z z)))), hst⟩
}
}
 {
 replace hm := bif_f hc506 hm
 refine wp_iff (cvb hc506) ?_
 refine wp_exit (then_x (then_x ?_))
 replace hm := inr_up hm hx504
 refine blk_x (tn (wp_seq (wrl ?_)))
 refine wv (.agg #[Zu, Zu, Zu, Zs, Zs, Zs, Zs]) z z (by kernel_rfl) ?_
 obtain ⟨w534, hr535, hst⟩ := hst.bx [Zu, Zu, Zu, Zs, Zs, Zs, Zs] sizeOf46 z (oC z (oC z (oC z (oC z (oC z (oC z (oC z oN))))))) (by kernel_rfl)
 refine wl_unit z z (x_unit hr535) ?_
 refine wv (.bool false) z z z (wl_nil (tn (wp_ret ?_)))
 have f536 : Ro tyF64 I (.slice none 0 0) [] := ro_nil
 have f537 : Ro tyF2 I (.slice none 0 0) [] := ro_nil
 have f538 : Ro tyF64 I (.slice none 0 0) [] := ro_nil
 have f539 : Ro (tyInt .u8) I (.slice none 0 0) [] := ro_nil
 obtain rfl := some_inj hm
 refine post_ret (vs := [.agg #[Zu, Zu, Zu, Zs, Zs, Zs, Zs], .bool false]) results70 (rvs_cons (rv_cell (cs := [Zu, Zu, Zu, Zs, Zs, Zs, Zs]) z isAgg46 sizeOf46 (hst.bcs0 0 z)) (rvs_cons (rv_tmp z) rvs_nil)) ?_
 exact ⟨_, Zs, Zs, Zs, Zs, z, hI0, f536, f537, f538, f539, hst.keep0⟩
}
}

theorem math_Signbit_ref {w0 w : World} {I : HL} {R : SP} {a0 : Nat}  (hst : St w0 w I [] R) {r : (Bool)} (hm : math_Signbit a0 = some r) :
  Calls prog 145 #[F6 a0] w fun e w' => e = .returned (.bool r) ∧ St w0 w' I [] R := by {
 unfold math_Signbit at hm
 refine calls_start (args := [F6 a0]) func145 z ntmps145 (Nat.le_of_ble_eq_true z) ?_
 refine wp_seq (wrl (wv (.bool false) z z z (wl_nil (tn (wp_seq (wrl (wv (.float .f64 a0) z z z (wv (.int .u64 (Int.ofNat a0)) z z (by kernel_rfl) (wv (.int .i64 (i64.wrap (Int.ofNat a0))) z z (by kernel_rfl) (wv (.bool (decide ((i64.wrap (Int.ofNat a0)) < (0:Int)))) z z z (wv (.bool (decide ((i64.wrap (Int.ofNat a0)) < (0:Int)))) z z z (wl_nil (tn (wp_ret ?_))))))))))))))
 obtain rfl := some_inj hm
 refine post_ret (vs := [.bool (decide ((i64.wrap (Int.ofNat a0)) < (0:Int)))]) results145 (rvs_cons (rv_tmp z) rvs_nil) ?_
 exact ⟨z, hst.keep0⟩
}

theorem ref01_Ahead_ref {w0 w : World} {I : HL} {R : SP} {a0 : Nat} {a1 : Nat}  (hst : St w0 w I [] R) {r : (Bool)} (hm : ref01_Ahead a0 a1 = some r) :
  Calls prog 59 #[F6 a0, F6 a1] w fun e w' => e = .returned (.bool r) ∧ St w0 w' I [] R := by {
 unfold ref01_Ahead at hm
 refine calls_start (args := [F6 a0, F6 a1]) func59 z ntmps59 (Nat.le_of_ble_eq_true z) ?_
 refine wp_seq (wrl (wv (.bool false) z z z (wl_nil (tn (wp_seq (wp_seq (wrl (wv (.float .f64 a0) z z z (wv (.float .f64 a0) z z z (wv (.bool (fNe a0 a0)) z z z (wl_nil (tn ?_))))))))))))
 refine bsplit (fNe a0 a0) (fun hc478 => ?_) (fun hc478 => ?_)
 {
 replace hm := bif_t hc478 hm
 refine wp_ift (cvb hc478) ?_
 refine wp_seq (wrl (wv (.bool false) z z z (wl_nil (tn (wp_ret (then_r ?_))))))
 obtain rfl := some_inj hm
 refine post_ret (vs := [.bool false]) results59 (rvs_cons (rv_tmp z) rvs_nil) ?_
 exact ⟨z, hst.keep0⟩
}
 {
 replace hm := bif_f hc478 hm
 refine wp_iff (cvb hc478) ?_
 refine wp_skip (tn (wp_seq (wp_seq (wrl ?_))))
 refine wv (.float .f64 a1) z z z (wv (.float .f64 a1) z z z (wv (.bool (fNe a1 a1)) z z z (wl_nil (tn ?_))))
 refine bsplit (fNe a1 a1) (fun hc479 => ?_) (fun hc479 => ?_)
 {
 replace hm := bif_t hc479 hm
 refine wp_ift (cvb hc479) ?_
 refine wp_seq (wrl (wv (.bool true) z z z (wl_nil (tn (wp_ret (then_r ?_))))))
 obtain rfl := some_inj hm
 refine post_ret (vs := [.bool true]) results59 (rvs_cons (rv_tmp z) rvs_nil) ?_
 exact ⟨z, hst.keep0⟩
}
 {
 replace hm := bif_f hc479 hm
 refine wp_iff (cvb hc479) ?_
 refine wp_skip (tn ?_)
 obtain ⟨y495, hm, hx496⟩ := joinO_some hm
 refine wp_cut (fun a w => ∃ (σ493 : Nat → Value), (ref01_Ahead_j0 a0 a1) () = some r ∧ a = Fr 27 (upd (upd σ493 0 (.float .f64 a0)) 1 (.float .f64 a1)) ∧ St w0 w I [] R) ?_ ?_
 {
 refine wp_seq (wrl (wv (.float .f64 a0) z z z (wv (.bool (fEq a0 (0:Nat))) z z z (wv (.bool (fEq a0 (0:Nat))) z z z ?_))))
 refine bsplit (fEq a0 (0:Nat)) (fun hc480 => ?_) (fun hc480 => ?_)
 {
 replace hm := bif_t hc480 hm
 refine wv (.float .f64 a1) ((wanted_eq z z z (cvb hc480)).trans z) z z (wv (.bool (fEq a1 (0:Nat))) ((wanted_eq z z z (cvb hc480)).trans z) z z (wv (.bool (fEq a1 (0:Nat))) z z (x_pick_t hc480 z z) (wl_nil (tn ?_))))
 refine bsplit (fEq a1 (0:Nat)) (fun hc481 => ?_) (fun hc481 => ?_)
 {
 replace hm := bif_t hc481 hm
 refine wp_ift (cvb hc481) ?_
 refine wp_seq (wrl (wv (.float .f64 a0) z z z ?_))
 obtain ⟨t482, ht483, hm⟩ := bind_some hm
 refine wc call145 [F6 a0] z z z ?_
 refine (math_Signbit_ref hst.to0 ht483).mono ?_
 rintro _ w484 ⟨rfl, hst⟩
 refine ⟨_, z, ?_⟩
 replace hst := hst.of0
 refine wv (.bool t482) z z z ?_
 refine bsplit t482 (fun hc487 => ?_) (fun hc487 => ?_)
 {
 replace hm := bif_t hc487 hm
 refine wv (.float .f64 a1) ((wanted_eq z z z (cvb hc487)).trans z) z z ?_
 obtain ⟨t488, ht489, hm⟩ := bind_some hm
 refine wl_call ((wanted_eq z z z (cvb hc487)).trans z) z (x_call call145 z (vs := [F6 a1]) z) ?_
 refine (math_Signbit_ref hst.to0 ht489).mono ?_
 rintro _ w490 ⟨rfl, hst⟩
 refine ⟨_, z, ?_⟩
 replace hst := hst.of0
 refine wv (.bool (!t488)) ((wanted_eq z z z (cvb hc487)).trans z) z z (wv (.bool (!t488)) z z (x_pick_t hc487 z z) (wv (.bool (!t488)) z z z (wl_nil (tn (wp_ret (then_r ?_))))))
 replace hm := inr_up hm hx496
 obtain rfl := some_inj hm
 refine post_ret (vs := [.bool (!t488)]) results59 (rvs_cons (rv_tmp z) rvs_nil) ?_
 exact ⟨z, hst.keep0⟩
}
 {
 replace hm := bif_f hc487 hm
 refine wo hc487 z z z z z z (wo hc487 z z z z z z (wo hc487 z z z z z z (wv (.bool false) z z (x_pick_f hc487 z z) (wv (.bool false) z z z (wl_nil (tn (wp_ret (then_r ?_))))))))
 replace hm := inr_up hm hx496
 obtain rfl := some_inj hm
 refine post_ret (vs := [.bool false]) results59 (rvs_cons (rv_tmp z) rvs_nil) ?_
 exact ⟨z, hst.keep0⟩
}
}
 {
 replace hm := bif_f hc481 hm
 refine wp_iff (cvb hc481) ?_
 refine wp_skip (tn ?_)
 replace hst := hst.keep0
 obtain rfl := some_inj hm
 exact ⟨_, hx496, (fu 0 (.float .f64 a0) z (fu 1 (.float .f64 a1) z z)), hst⟩
}
}
 {
 replace hm := bif_f hc480 hm
 refine wo hc480 z z z z z z (wo hc480 z z z z z z (wv (.bool false) z z (x_pick_f hc480 z z) (wl_nil (tn ?_))))
 refine wp_iff z ?_
 refine wp_skip (tn ?_)
 replace hst := hst.keep0
 obtain rfl := some_inj hm
 exact ⟨_, hx496, (fu 0 (.float .f64 a0) z (fu 1 (.float .f64 a1) z z)), hst⟩
}
}
 {
 clear hst
 rintro _ w497 ⟨σ493, hm, rfl, hst⟩
 dsimp only [ref01_Ahead_j0] at hm
 refine wp_seq (wrl (wv (.float .f64 a0) z z z (wv (.float .f64 a1) z z z (wv (.bool (fLt a0 a1)) z z z (wv (.bool (fLt a0 a1)) z z z (wl_nil (tn (wp_ret ?_))))))))
 obtain rfl := some_inj hm
 refine post_ret (vs := [.bool (fLt a0 a1)]) results59 (rvs_cons (rv_tmp z) rvs_nil) ?_
 exact ⟨z, hst.keep0⟩
}
}
}
}

theorem ref01_Same_ref {w0 w : World} {I : HL} {R : SP} {a0 : Nat} {a1 : Nat}  (hst : St w0 w I [] R) {r : (Bool)} (hm : ref01_Same a0 a1 = some r) :
  Calls prog 20 #[F6 a0, F6 a1] w fun e w' => e = .returned (.bool r) ∧ St w0 w' I [] R := by {
 unfold ref01_Same at hm
 refine calls_start (args := [F6 a0, F6 a1]) func20 z ntmps20 (Nat.le_of_ble_eq_true z) ?_
 refine wp_seq (wrl (wv (.bool false) z z z (wl_nil (tn (wp_seq (wrl (wv (.float .f64 a0) z z z (wv (.float .f64 a1) z z z ?_))))))))
 obtain ⟨t469, ht470, hm⟩ := bind_some hm
 refine wc call59 [F6 a0, F6 a1] z z z ?_
 refine (ref01_Ahead_ref hst.to0 ht470).mono ?_
 rintro _ w471 ⟨rfl, hst⟩
 refine ⟨_, z, ?_⟩
 replace hst := hst.of0
 refine wv (.bool (!t469)) z z z (wv (.bool (!t469)) z z z ?_)
 refine bsplit (!t469) (fun hc474 => ?_) (fun hc474 => ?_)
 {
 replace hm := bif_t hc474 hm
 refine wv (.float .f64 a1) ((wanted_eq z z z (cvb hc474)).trans z) z z (wv (.float .f64 a0) ((wanted_eq z z z (cvb hc474)).trans z) z z ?_)
 obtain ⟨t475, ht476, hm⟩ := bind_some hm
 refine wl_call ((wanted_eq z z z (cvb hc474)).trans z) z (x_call call59 z (vs := [F6 a1, F6 a0]) z) ?_
 refine (ref01_Ahead_ref hst.to0 ht476).mono ?_
 rintro _ w477 ⟨rfl, hst⟩
 refine ⟨_, z, ?_⟩
 replace hst := hst.of0
 refine wv (.bool (!t475)) ((wanted_eq z z z (cvb hc474)).trans z) z z (wv (.bool (!t475)) z z (x_pick_t hc474 z z) (wv (.bool (!t475)) z z z (wl_nil (tn (wp_ret ?_)))))
 obtain rfl := some_inj hm
 refine post_ret (vs := [.bool (!t475)]) results20 (rvs_cons (rv_tmp z) rvs_nil) ?_
 exact ⟨z, hst.keep0⟩
}
 {
 replace hm := bif_f hc474 hm
 refine wo hc474 z z z z z z (wo hc474 z z z z z z (wo hc474 z z z z z z (wo hc474 z z z z z z (wv (.bool false) z z (x_pick_f hc474 z z) (wv (.bool false) z z z (wl_nil (tn (wp_ret ?_))))))))
 obtain rfl := some_inj hm
 refine post_ret (vs := [.bool false]) results20 (rvs_cons (rv_tmp z) rvs_nil) ?_
 exact ⟨z, hst.keep0⟩
}
}

theorem ref11_SameHold_ref {w0 w : World} {I : HL} {R : SP} {a0 : api_Hold} {r0_0 : Value} {r0_1 : Value} {r0_2 : Value} {r0_3 : Value} {a1 : api_Hold} {r1_0 : Value} {r1_1 : Value} {r1_2 : Value} {r1_3 : Value} (f0_0 : Rd tyF64 R I r0_0 a0.Gets) (f0_1 : Rd tyF2 R I r0_1 a0.Scans) (f0_2 : Rd tyF64 R I r0_2 a0.Puts) (f0_3 : Rd (tyInt .u8) R I r0_3 a0.Data) (f1_0 : Rd tyF64 R I r1_0 a1.Gets) (f1_1 : Rd tyF2 R I r1_1 a1.Scans) (f1_2 : Rd tyF64 R I r1_2 a1.Puts) (f1_3 : Rd (tyInt .u8) R I r1_3 a1.Data) (hst : St w0 w I [] R) {r : (Bool)} (hm : ref11_SameHold a0 a1 = some r) :
  Calls prog 89 #[.agg #[U6 a0.ID.Session, U6 a0.ID.Seq, U6 a0.Epoch, r0_0, r0_1, r0_2, r0_3], .agg #[U6 a1.ID.Session, U6 a1.ID.Seq, U6 a1.Epoch, r1_0, r1_1, r1_2, r1_3]] w fun e w' => e = .returned (.bool r) ∧ St w0 w' I [] R := by {
 unfold ref11_SameHold at hm
 refine calls_start (args := [.agg #[U6 a0.ID.Session, U6 a0.ID.Seq, U6 a0.Epoch, r0_0, r0_1, r0_2, r0_3], .agg #[U6 a1.ID.Session, U6 a1.ID.Seq, U6 a1.Epoch, r1_0, r1_1, r1_2, r1_3]]) func89 z ntmps89 (Nat.le_of_ble_eq_true z) ?_
 refine wp_seq (wrl ?_)
 obtain ⟨b676, w677, ew678, eb679, hst⟩ := hst.box [U6 a0.ID.Session, U6 a0.ID.Seq, U6 a0.Epoch, r0_0, r0_1, r0_2, r0_3] 46
 refine wl_run (v := Pt b676 0) (w' := w677) z z (x_al (by kernel_rfl) ew678 eb679) ?_
 obtain ⟨b681, w682, ew683, eb684, hst⟩ := hst.box [U6 a1.ID.Session, U6 a1.ID.Seq, U6 a1.Epoch, r1_0, r1_1, r1_2, r1_3] 46
 refine wl_run (v := Pt b681 0) (w' := w682) z z (x_al (by kernel_rfl) ew683 eb684) ?_
 refine wv (.bool false) z z z (wl_nil (tn (wp_seq (wp_seq (wrl (wv (Pt b676 0) z z (x_field z underlying46 z sizeOf28 z) (wv (.agg #[U6 a0.ID.Session, U6 a0.ID.Seq]) z z (x_loadN (cs := [U6 a0.ID.Session, U6 a0.ID.Seq]) z isAgg28 sizeOf28 (hst.bcs1 0 z)) (wv (Pt b681 0) z z (x_field z underlying46 z sizeOf28 z) (wv (.agg #[U6 a1.ID.Session, U6 a1.ID.Seq]) z z (x_loadN (cs := [U6 a1.ID.Session, U6 a1.ID.Seq]) z isAgg28 sizeOf28 (hst.bcs0 0 z)) (wv (.bool (!((a0.ID.Session == a1.ID.Session) && (a0.ID.Seq == a1.ID.Seq)))) z z (x_aggne2 z z (by kernel_rfl) underlying28 (by kernel_rfl) (by kernel_rfl) (by kernel_rfl) underlying26 underlying26 (fun _ _ _ => by kernel_rfl) (fun _ _ _ => by kernel_rfl)) (wv (.bool (!((a0.ID.Session == a1.ID.Session) && (a0.ID.Seq == a1.ID.Seq)))) z z z ?_)))))))))))
 refine bsplit (!((a0.ID.Session == a1.ID.Session) && (a0.ID.Seq == a1.ID.Seq))) (fun hc686 => ?_) (fun hc686 => ?_)
 {
 replace hm := bif_t hc686 hm
 refine wo hc686 z z z z z z (wo hc686 z z z z z z (wo hc686 z z z z z z (wo hc686 z z z z z z (wo hc686 z z z z z z (wv (.bool true) z z (x_pick_t hc686 z z) (wv (.bool true) z z z (wz z z z z z z (wz z z z z z z (wz z z z z z z (wz z z z z z z (wz z z z z z z (wz z z z z z z ?_))))))))))))
 refine wz z z z z z z (wv (.bool true) z z (x_pick_t z z z) (wv (.bool true) z z z (wz z z z z z z (wz z z z z z z (wz z z z z z z (wz z z z z z z (wz z z z z z z (wz z z z z z z (wz z z z z z z (wv (.bool true) z z (x_pick_t z z z) (wv (.bool true) z z z (wz z z z z z z ?_))))))))))))
 refine wz z z z z z z (wz z z z z z z (wz z z z z z z (wz z z z z z z (wz z z z z z z (wz z z z z z z (wv (.bool true) z z (x_pick_t z z z) (wv (.bool true) z z z (wz z z z z z z (wz z z z z z z (wz z z z z z z (wz z z z z z z (wz z z z z z z ?_))))))))))))
 refine wz z z z z z z (wz z z z z z z (wv (.bool true) z z (x_pick_t z z z) (wl_nil (tn ?_))))
 refine wp_ift z ?_
 refine wp_seq (wrl (wv (.bool false) z z z (wl_nil (tn (wp_ret (then_r ?_))))))
 obtain rfl := some_inj hm
 refine post_ret (vs := [.bool false]) results89 (rvs_cons (rv_tmp z) rvs_nil) ?_
 exact ⟨z, hst.keep0⟩
}
 {
 replace hm := bif_f hc686 hm
 refine wv (Pt b676 2) ((wanted_eq z z z (cvb hc686)).trans z) z (x_field z underlying46 z sizeOf26 z) (wv (.int .u64 a0.Epoch) ((wanted_eq z z z (cvb hc686)).trans z) z (x_load z isAgg26 (hst.bc1 z)) (wv (Pt b681 2) ((wanted_eq z z z (cvb hc686)).trans z) z (x_field z underlying46 z sizeOf26 z) (wv (.int .u64 a1.Epoch) ((wanted_eq z z z (cvb hc686)).trans z) z (x_load z isAgg26 (hst.bc0 z)) (wv (.bool (a0.Epoch != a1.Epoch)) ((wanted_eq z z z (cvb hc686)).trans z) z z (wv (.bool (a0.Epoch != a1.Epoch)) z z (x_pick_f hc686 z z) (wv (.bool (a0.Epoch != a1.Epoch)) z z z ?_))))))
 refine bsplit (a0.Epoch != a1.Epoch) (fun hc687 => ?_) (fun hc687 => ?_)
 {
 replace hm := bif_t hc687 hm
 refine wo hc687 z z z z z z (wo hc687 z z z z z z (wo hc687 z z z z z z (wo hc687 z z z z z z (wo hc687 z z z z z z (wo hc687 z z z z z z (wo hc687 z z z z z z (wv (.bool true) z z (x_pick_t hc687 z z) (wv (.bool true) z z z (wz z z z z z z (wz z z z z z z (wz z z z z z z (wz z z z z z z ?_))))))))))))
 refine wz z z z z z z (wz z z z z z z (wz z z z z z z (wv (.bool true) z z (x_pick_t z z z) (wv (.bool true) z z z (wz z z z z z z (wz z z z z z z (wz z z z z z z (wz z z z z z z (wz z z z z z z (wz z z z z z z (wz z z z z z z (wv (.bool true) z z (x_pick_t z z z) ?_))))))))))))
 refine wv (.bool true) z z z (wz z z z z z z (wz z z z z z z (wz z z z z z z (wz z z z z z z (wz z z z z z z (wz z z z z z z (wz z z z z z z (wv (.bool true) z z (x_pick_t z z z) (wl_nil (tn ?_))))))))))
 refine wp_ift z ?_
 refine wp_seq (wrl (wv (.bool false) z z z (wl_nil (tn (wp_ret (then_r ?_))))))
 obtain rfl := some_inj hm
 refine post_ret (vs := [.bool false]) results89 (rvs_cons (rv_tmp z) rvs_nil) ?_
 exact ⟨z, hst.keep0⟩
}
 {
 replace hm := bif_f hc687 hm
 refine wv (Pt b676 3) ((wanted_eq z z z (cvb hc687)).trans z) z (x_field z underlying46 z sizeOf43 z) (wv (r0_0) ((wanted_eq z z z (cvb hc687)).trans z) z (x_load z isAgg43 (hst.bc1 z)) (wv (.int .i64 ((a0.Gets).length : Int)) ((wanted_eq z z z (cvb hc687)).trans z) z (x_len z underlying43 (rd_sliceV f0_0)) (wv (Pt b681 3) ((wanted_eq z z z (cvb hc687)).trans z) z (x_field z underlying46 z sizeOf43 z) (wv (r1_0) ((wanted_eq z z z (cvb hc687)).trans z) z (x_load z isAgg43 (hst.bc0 z)) (wv (.int .i64 ((a1.Gets).length : Int)) ((wanted_eq z z z (cvb hc687)).trans z) z (x_len z underlying43 (rd_sliceV f1_0)) (wv (.bool (((a0.Gets).length : Int) != ((a1.Gets).length : Int))) ((wanted_eq z z z (cvb hc687)).trans z) z z (wv (.bool (((a0.Gets).length : Int) != ((a1.Gets).length : Int))) z z (x_pick_f hc687 z z) (wv (.bool (((a0.Gets).length : Int) != ((a1.Gets).length : Int))) z z z ?_))))))))
 refine bsplit (((a0.Gets).length : Int) != ((a1.Gets).length : Int)) (fun hc688 => ?_) (fun hc688 => ?_)
 {
 replace hm := bif_t hc688 hm
 refine wo hc688 z z z z z z (wo hc688 z z z z z z (wo hc688 z z z z z z (wo hc688 z z z z z z (wo hc688 z z z z z z (wo hc688 z z z z z z (wo hc688 z z z z z z (wv (.bool true) z z (x_pick_t hc688 z z) (wv (.bool true) z z z (wz z z z z z z (wz z z z z z z (wz z z z z z z (wz z z z z z z ?_))))))))))))
 refine wz z z z z z z (wz z z z z z z (wz z z z z z z (wv (.bool true) z z (x_pick_t z z z) (wv (.bool true) z z z (wz z z z z z z (wz z z z z z z (wz z z z z z z (wz z z z z z z (wz z z z z z z (wz z z z z z z (wz z z z z z z (wv (.bool true) z z (x_pick_t z z z) ?_))))))))))))
 refine wl_nil (tn ?_)
 refine wp_ift z ?_
 refine wp_seq (wrl (wv (.bool false) z z z (wl_nil (tn (wp_ret (then_r ?_))))))
 obtain rfl := some_inj hm
 refine post_ret (vs := [.bool false]) results89 (rvs_cons (rv_tmp z) rvs_nil) ?_
 exact ⟨z, hst.keep0⟩
}
 {
 replace hm := bif_f hc688 hm
 refine wv (Pt b676 4) ((wanted_eq z z z (cvb hc688)).trans z) z (x_field z underlying46 z sizeOf44 z) (wv (r0_1) ((wanted_eq z z z (cvb hc688)).trans z) z (x_load z isAgg44 (hst.bc1 z)) (wv (.int .i64 ((a0.Scans).length : Int)) ((wanted_eq z z z (cvb hc688)).trans z) z (x_len z underlying44 (rd_sliceV f0_1)) (wv (Pt b681 4) ((wanted_eq z z z (cvb hc688)).trans z) z (x_field z underlying46 z sizeOf44 z) (wv (r1_1) ((wanted_eq z z z (cvb hc688)).trans z) z (x_load z isAgg44 (hst.bc0 z)) (wv (.int .i64 ((a1.Scans).length : Int)) ((wanted_eq z z z (cvb hc688)).trans z) z (x_len z underlying44 (rd_sliceV f1_1)) (wv (.bool (((a0.Scans).length : Int) != ((a1.Scans).length : Int))) ((wanted_eq z z z (cvb hc688)).trans z) z z (wv (.bool (((a0.Scans).length : Int) != ((a1.Scans).length : Int))) z z (x_pick_f hc688 z z) (wv (.bool (((a0.Scans).length : Int) != ((a1.Scans).length : Int))) z z z ?_))))))))
 refine bsplit (((a0.Scans).length : Int) != ((a1.Scans).length : Int)) (fun hc689 => ?_) (fun hc689 => ?_)
 {
 replace hm := bif_t hc689 hm
 refine wo hc689 z z z z z z (wo hc689 z z z z z z (wo hc689 z z z z z z (wo hc689 z z z z z z (wo hc689 z z z z z z (wo hc689 z z z z z z (wo hc689 z z z z z z (wv (.bool true) z z (x_pick_t hc689 z z) (wv (.bool true) z z z (wz z z z z z z (wz z z z z z z (wz z z z z z z (wz z z z z z z ?_))))))))))))
 refine wz z z z z z z (wz z z z z z z (wz z z z z z z (wv (.bool true) z z (x_pick_t z z z) (wl_nil (tn ?_)))))
 refine wp_ift z ?_
 refine wp_seq (wrl (wv (.bool false) z z z (wl_nil (tn (wp_ret (then_r ?_))))))
 obtain rfl := some_inj hm
 refine post_ret (vs := [.bool false]) results89 (rvs_cons (rv_tmp z) rvs_nil) ?_
 exact ⟨z, hst.keep0⟩
}
 {
 replace hm := bif_f hc689 hm
 refine wv (Pt b676 5) ((wanted_eq z z z (cvb hc689)).trans z) z (x_field z underlying46 z sizeOf43 z) (wv (r0_2) ((wanted_eq z z z (cvb hc689)).trans z) z (x_load z isAgg43 (hst.bc1 z)) (wv (.int .i64 ((a0.Puts).length : Int)) ((wanted_eq z z z (cvb hc689)).trans z) z (x_len z underlying43 (rd_sliceV f0_2)) (wv (Pt b681 5) ((wanted_eq z z z (cvb hc689)).trans z) z (x_field z underlying46 z sizeOf43 z) (wv (r1_2) ((wanted_eq z z z (cvb hc689)).trans z) z (x_load z isAgg43 (hst.bc0 z)) (wv (.int .i64 ((a1.Puts).length : Int)) ((wanted_eq z z z (cvb hc689)).trans z) z (x_len z underlying43 (rd_sliceV f1_2)) (wv (.bool (((a0.Puts).length : Int) != ((a1.Puts).length : Int))) ((wanted_eq z z z (cvb hc689)).trans z) z z (wv (.bool (((a0.Puts).length : Int) != ((a1.Puts).length : Int))) z z (x_pick_f hc689 z z) (wv (.bool (((a0.Puts).length : Int) != ((a1.Puts).length : Int))) z z z ?_))))))))
 refine bsplit (((a0.Puts).length : Int) != ((a1.Puts).length : Int)) (fun hc690 => ?_) (fun hc690 => ?_)
 {
 replace hm := bif_t hc690 hm
 refine wo hc690 z z z z z z (wo hc690 z z z z z z (wo hc690 z z z z z z (wo hc690 z z z z z z (wo hc690 z z z z z z (wo hc690 z z z z z z (wo hc690 z z z z z z (wv (.bool true) z z (x_pick_t hc690 z z) (wl_nil (tn ?_)))))))))
 refine wp_ift z ?_
 refine wp_seq (wrl (wv (.bool false) z z z (wl_nil (tn (wp_ret (then_r ?_))))))
 obtain rfl := some_inj hm
 refine post_ret (vs := [.bool false]) results89 (rvs_cons (rv_tmp z) rvs_nil) ?_
 exact ⟨z, hst.keep0⟩
}
 {
 replace hm := bif_f hc690 hm
 refine wv (Pt b676 6) ((wanted_eq z z z (cvb hc690)).trans z) z (x_field z underlying46 z sizeOf22 z) (wv (r0_3) ((wanted_eq z z z (cvb hc690)).trans z) z (x_load z isAgg22 (hst.bc1 z)) (wv (.string (toStr a0.Data)) ((wanted_eq z z z (cvb hc690)).trans z) z (x_tostr underlying22 underlying9 underlying5 z (Src.of_rd hst f0_3 flat_int)) (wv (Pt b681 6) ((wanted_eq z z z (cvb hc690)).trans z) z (x_field z underlying46 z sizeOf22 z) (wv (r1_3) ((wanted_eq z z z (cvb hc690)).trans z) z (x_load z isAgg22 (hst.bc0 z)) (wv (.string (toStr a1.Data)) ((wanted_eq z z z (cvb hc690)).trans z) z (x_tostr underlying22 underlying9 underlying5 z (Src.of_rd hst f1_3 flat_int)) (wv (.bool (!(sEq (toStr a0.Data) (toStr a1.Data)))) ((wanted_eq z z z (cvb hc690)).trans z) z (by kernel_rfl) (wv (.bool (!(sEq (toStr a0.Data) (toStr a1.Data)))) z z (x_pick_f hc690 z z) (wl_nil (tn ?_)))))))))
 refine bsplit (!(sEq (toStr a0.Data) (toStr a1.Data))) (fun hc691 => ?_) (fun hc691 => ?_)
 {
 replace hm := bif_t hc691 hm
 refine wp_ift (cvb hc691) ?_
 refine wp_seq (wrl (wv (.bool false) z z z (wl_nil (tn (wp_ret (then_r ?_))))))
 obtain rfl := some_inj hm
 refine post_ret (vs := [.bool false]) results89 (rvs_cons (rv_tmp z) rvs_nil) ?_
 exact ⟨z, hst.keep0⟩
}
 {
 replace hm := bif_f hc691 hm
 refine wp_iff (cvb hc691) ?_
 refine wp_skip (tn ?_)
 obtain ⟨y755, hm, hx756⟩ := joinO_some hm
 refine wp_cut (fun a w => ∃ (σ753 : Nat → Value), (ref11_SameHold_j0 a0 a1) () = some r ∧ a = Fr 131 (upd (upd σ753 2 (Pt b676 0)) 3 (Pt b681 0)) ∧ St w0 w I [cells b676 [U6 a0.ID.Session, U6 a0.ID.Seq, U6 a0.Epoch, r0_0, r0_1, r0_2, r0_3], cells b681 [U6 a1.ID.Session, U6 a1.ID.Seq, U6 a1.Epoch, r1_0, r1_1, r1_2, r1_3]] R) ?_ ?_
 {
 refine wp_seq (wrl (wv (.int .i64 (0:Int)) z z z (wl_nil (tn (wp_block ?_)))))
 obtain ⟨n729, hm⟩ := loopO_some hm
 refine wp_loop_n (fun n a w => ∃ (z727 : Int) (σ728 : Nat → Value), loopN (ref11_SameHold_l1 a0 a1) n z727 = some y755 ∧ a = Fr 131 (upd (upd (upd σ728 2 (Pt b676 0)) 3 (Pt b681 0)) 5 (.int .i64 z727)) ∧ St w0 w I [cells b681 [U6 a1.ID.Session, U6 a1.ID.Seq, U6 a1.Epoch, r1_0, r1_1, r1_2, r1_3], cells b676 [U6 a0.ID.Session, U6 a0.ID.Seq, U6 a0.Epoch, r0_0, r0_1, r0_2, r0_3]] R) n729 ⟨(0:Int), _, hm, (fu 2 (Pt b676 0) z (fu 3 (Pt b681 0) z (fu 5 (.int .i64 (0:Int)) z z))), hst⟩ ?_
 rintro n735 _ w730 ⟨z727, σ728, hm, rfl, hst⟩
 obtain ⟨n732, y733, rfl, hm, hx734⟩ := loopN_some hm
 dsimp only [ref11_SameHold_l1] at hm
 refine wp_seq (wp_seq (wrl (wv (.int .i64 z727) z z z (wv (Pt b676 3) z z (x_field z underlying46 z sizeOf43 z) (wv (r0_0) z z (x_load z isAgg43 (hst.bc1 z)) (wv (.int .i64 ((a0.Gets).length : Int)) z z (x_len z underlying43 (rd_sliceV f0_0)) (wv (.bool (decide (z727 < ((a0.Gets).length : Int)))) z z z (wl_nil (tn ?_)))))))))
 refine bsplit (decide (z727 < ((a0.Gets).length : Int))) (fun hc736 => ?_) (fun hc736 => ?_)
 {
 replace hm := bif_t hc736 hm
 refine wp_ift (cvb hc736) ?_
 refine wp_skip (tn (wp_seq (wp_block (wp_seq ?_))))
 refine wp_region_St hst 12 [0, 1, 2, 3, 4, 5, 6, 7, 8, 9, 10, 11] [0, 1, 0, 7, 15, 0, 32, 0, 224, 480, 1023, 2047] [] z (by kernel_rfl) (by kernel_rfl) Tryz.mixed (by kernel_rfl) ?_
 refine wsr (Pt b676 3) 0 z z z (by kernel_rfl) (fun w hst => x_field z underlying46 z sizeOf43 z) (wsr (r0_0) 1 z z z (by kernel_rfl) (fun w hst => x_load z isAgg43 (hst.bc1 z)) (wsr (.int .i64 z727) 2 z z z (by kernel_rfl) (fun w hst => z) ?_))
 obtain ⟨x737, hx738, hm⟩ := bind_some hm
 obtain ⟨h739, h740, hi741⟩ := geto_some hx738
 refine wsr (.pointer (some (eAddr r0_0 (z727.toNat * 1 + 0)))) 3 z z z (by kernel_rfl) (fun w hst => x_index z z underlying43 sizeOf37 (rd_sliceV f0_0) h739 h740) (wsr (.float .f64 x737) 4 z z z (by kernel_rfl) (fun w hst => x_load z isAgg37 (rd_load f0_0 (HL.le.refl _) hst hi741 (by rintro _ rfl; rfl))) (wsr (Pt b681 3) 5 z z z (by kernel_rfl) (fun w hst => x_field z underlying46 z sizeOf43 z) (wsr (r1_0) 6 z z z (by kernel_rfl) (fun w hst => x_load z isAgg43 (hst.bc0 z)) (wsr (.int .i64 z727) 7 z z z (by kernel_rfl) (fun w hst => z) ?_))))
 obtain ⟨x742, hx743, hm⟩ := bind_some hm
 obtain ⟨h744, h745, hi746⟩ := geto_some hx743
 refine wsr (.pointer (some (eAddr r1_0 (z727.toNat * 1 + 0)))) 8 z z z (by kernel_rfl) (fun w hst => x_index z z underlying43 sizeOf37 (rd_sliceV f1_0) h744 h745) (wsr (.float .f64 x742) 9 z z z (by kernel_rfl) (fun w hst => x_load z isAgg37 (rd_load f1_0 (HL.le.refl _) hst hi746 (by rintro _ rfl; rfl))) ?_)
 refine ws_e1 10 (by kernel_rfl) ?_
 refine nxe [11] (by kernel_rfl) z z ?_
 clear hst
 intro w hst
 obtain ⟨t747, ht748, hm⟩ := bind_some hm
 refine wec call20 [F6 x737, F6 x742] z z ?_
 refine (ref01_Same_ref hst.to0 ht748).mono ?_
 rintro _ w749 ⟨rfl, hst⟩
 refine ⟨_, z, ?_⟩
 replace hst := hst.of0
 refine ws_next (pend' := []) hst (by kernel_rfl) pk_nil ?_
 refine wsr (.bool (!t747)) 11 z z z (by kernel_rfl) (fun w hst => z) ?_
 refine ws_nil ?_
 intro w hst
 refine tn ?_
 refine bsplit (!t747) (fun hc752 => ?_) (fun hc752 => ?_)
 {
 replace hm := bif_t hc752 hm
 refine wp_ift (cvb hc752) ?_
 refine wp_seq (wrl (wv (.bool false) z z z (wl_nil (tn (wp_ret (blk_r (then_r (then_r ?_))))))))
 replace hm := inr_up hm hx734
 refine blk_r (then_r ?_)
 replace hm := inr_up hm hx756
 obtain rfl := some_inj hm
 refine post_ret (vs := [.bool false]) results89 (rvs_cons (rv_tmp z) rvs_nil) ?_
 exact ⟨z, hst.keep0⟩
}
 {
 replace hm := bif_f hc752 hm
 refine wp_iff (cvb hc752) ?_
 refine wp_skip (blk_n (tn (wrl ?_)))
 refine wv (.int .i64 z727) z z z (wv (.int .i64 (i64.wrap (z727 + (1:Int)))) z z z (wv (.int .i64 (i64.wrap (z727 + (1:Int)))) z z z (wl_nil (tn ?_))))
 replace hst := hst.pull1.pull1.keep2
 obtain rfl := some_inj hm
 exact ⟨_, Nat.lt_succ_self _, (i64.wrap (z727 + (1:Int))), _, hx734, (fu 2 (Pt b676 0) z (fu 3 (Pt b681 0) z (fu 5 (.int .i64 (i64.wrap (z727 + (1:Int)))) z z))), hst⟩
}
}
 {
 replace hm := bif_f hc736 hm
 refine wp_iff (cvb hc736) ?_
 refine wp_exit (then_x (then_x ?_))
 replace hm := inr_up hm hx734
 refine blk_x (tn ?_)
 replace hst := hst.pull1.keep2
 obtain rfl := some_inj hm
 exact ⟨_, hx756, (fu 2 (Pt b676 0) z (fu 3 (Pt b681 0) z z)), hst⟩
}
}
 {
 clear hst
 rintro _ w757 ⟨σ753, hm, rfl, hst⟩
 dsimp only [ref11_SameHold_j0] at hm
 obtain ⟨y839, hm, hx840⟩ := joinO_some hm
 refine wp_cut (fun a w => ∃ (σ837 : Nat → Value), (ref11_SameHold_j2 a0 a1) () = some r ∧ a = Fr 131 (upd (upd σ837 2 (Pt b676 0)) 3 (Pt b681 0)) ∧ St w0 w I [cells b676 [U6 a0.ID.Session, U6 a0.ID.Seq, U6 a0.Epoch, r0_0, r0_1, r0_2, r0_3], cells b681 [U6 a1.ID.Session, U6 a1.ID.Seq, U6 a1.Epoch, r1_0, r1_1, r1_2, r1_3]] R) ?_ ?_
 {
 refine wp_seq (wrl (wv (.int .i64 (0:Int)) z z z (wl_nil (tn (wp_block ?_)))))
 obtain ⟨n807, hm⟩ := loopO_some hm
 refine wp_loop_n (fun n a w => ∃ (z805 : Int) (σ806 : Nat → Value), loopN (ref11_SameHold_l3 a0 a1) n z805 = some y839 ∧ a = Fr 131 (upd (upd (upd σ806 2 (Pt b676 0)) 3 (Pt b681 0)) 6 (.int .i64 z805)) ∧ St w0 w I [cells b676 [U6 a0.ID.Session, U6 a0.ID.Seq, U6 a0.Epoch, r0_0, r0_1, r0_2, r0_3], cells b681 [U6 a1.ID.Session, U6 a1.ID.Seq, U6 a1.Epoch, r1_0, r1_1, r1_2, r1_3]] R) n807 ⟨(0:Int), _, hm, (fu 2 (Pt b676 0) z (fu 3 (Pt b681 0) z (fu 6 (.int .i64 (0:Int)) z z))), hst⟩ ?_
 rintro n813 _ w808 ⟨z805, σ806, hm, rfl, hst⟩
 obtain ⟨n810, y811, rfl, hm, hx812⟩ := loopN_some hm
 dsimp only [ref11_SameHold_l3] at hm
 refine wp_seq (wp_seq (wrl (wv (.int .i64 z805) z z z (wv (Pt b676 4) z z (x_field z underlying46 z sizeOf44 z) (wv (r0_1) z z (x_load z isAgg44 (hst.bc0 z)) (wv (.int .i64 ((a0.Scans).length : Int)) z z (x_len z underlying44 (rd_sliceV f0_1)) (wv (.bool (decide (z805 < ((a0.Scans).length : Int)))) z z z (wl_nil (tn ?_)))))))))
 refine bsplit (decide (z805 < ((a0.Scans).length : Int))) (fun hc814 => ?_) (fun hc814 => ?_)
 {
 replace hm := bif_t hc814 hm
 refine wp_ift (cvb hc814) ?_
 refine wp_skip (tn (wp_seq (wp_block (wp_seq ?_))))
 refine wp_region_St hst 30 [0, 1, 2, 3, 4, 5, 6, 7, 8, 9, 10, 11, 12, 13, 14, 15, 16, 17, 18, 19, 20, 21, 22, 23, 24, 25, 26, 27, 28, 29] [0, 1, 0, 7, 15, 31, 0, 64, 0, 448, 960, 1984, 4095, 8191, 16383, 32767, 65535, 32767, 262143, 524287, 1048575, 32767, 2129919, 32767, 14712831, 31490047, 65044479, 134217727, 268435455, 536870911] [] z (by kernel_rfl) (by kernel_rfl) Tryz.mixed (by kernel_rfl) ?_
 refine wsr (Pt b676 4) 0 z z z (by kernel_rfl) (fun w hst => x_field z underlying46 z sizeOf44 z) (wsr (r0_1) 1 z z z (by kernel_rfl) (fun w hst => x_load z isAgg44 (hst.bc0 z)) (wsr (.int .i64 z805) 2 z z z (by kernel_rfl) (fun w hst => z) ?_))
 obtain ⟨x815, hx816, hm⟩ := bind_some hm
 obtain ⟨h817, h818, hi819⟩ := geto_some hx816
 refine wsr (.pointer (some (eAddr r0_1 (z805.toNat * 2 + 0)))) 3 z z z (by kernel_rfl) (fun w hst => x_index z z underlying44 sizeOf80 (rd_sliceV f0_1) h817 h818) (wsr (.pointer (some (eAddr r0_1 (z805.toNat * 2 + 0)))) 4 z z z (by kernel_rfl) (fun w hst => x_index_arr_e (i := (0:Int)) z z underlying80 sizeOf37 (by decide) (by decide) z) (wsr (.float .f64 x815.1) 5 z z z (by kernel_rfl) (fun w hst => x_load z isAgg37 (rd_load f0_1 (HL.le.refl _) hst hi819 (by rintro _ rfl; rfl))) (wsr (Pt b681 4) 6 z z z (by kernel_rfl) (fun w hst => x_field z underlying46 z sizeOf44 z) (wsr (r1_1) 7 z z z (by kernel_rfl) (fun w hst => x_load z isAgg44 (hst.bc1 z)) (wsr (.int .i64 z805) 8 z z z (by kernel_rfl) (fun w hst => z) ?_)))))
 obtain ⟨x820, hx821, hm⟩ := bind_some hm
 obtain ⟨h822, h823, hi824⟩ := geto_some hx821
 refine wsr (.pointer (some (eAddr r1_1 (z805.toNat * 2 + 0)))) 9 z z z (by kernel_rfl) (fun w hst => x_index z z underlying44 sizeOf80 (rd_sliceV f1_1) h822 h823) (wsr (.pointer (some (eAddr r1_1 (z805.toNat * 2 + 0)))) 10 z z z (by kernel_rfl) (fun w hst => x_index_arr_e (i := (0:Int)) z z underlying80 sizeOf37 (by decide) (by decide) z) (wsr (.float .f64 x820.1) 11 z z z (by kernel_rfl) (fun w hst => x_load z isAgg37 (rd_load f1_1 (HL.le.refl _) hst hi824 (by rintro _ rfl; rfl))) ?_))
 refine ws_e1 12 (by kernel_rfl) ?_
 refine nxe [13, 14, 15, 16, 17, 18, 19, 20, 21, 22, 23, 24, 25, 26, 27, 28, 29] (by kernel_rfl) z z ?_
 clear hst
 intro w hst
 obtain ⟨t825, ht826, hm⟩ := bind_some hm
 refine wec call20 [F6 x815.1, F6 x820.1] z z ?_
 refine (ref01_Same_ref hst.to0 ht826).mono ?_
 rintro _ w827 ⟨rfl, hst⟩
 refine ⟨_, z, ?_⟩
 replace hst := hst.of0
 refine ws_next (pend' := []) hst (by kernel_rfl) pk_nil ?_
 refine wsr (.bool (!t825)) 13 z z z (by kernel_rfl) (fun w hst => z) (wsr (.bool (!t825)) 14 z z z (by kernel_rfl) (fun w hst => z) ?_)
 refine bsplit (!t825) (fun hc830 => ?_) (fun hc830 => ?_)
 {
 replace hm := bif_t hc830 hm
 refine ws_q (v := undef) 15 [16, 17, 18, 19, 20, 21, 22, 23, 24, 25, 26, 27, 28, 29] (by kernel_rfl) z z (yi_off ((wanted_eq z z z (cvb hc830)).trans z)) (ws_q (v := undef) 16 [17, 18, 19, 20, 21, 22, 23, 24, 25, 26, 27, 28, 29] (by kernel_rfl) z z (yi_off ((wanted_eq z z z (cvb hc830)).trans z)) (ws_q (v := undef) 17 [18, 19, 20, 21, 22, 23, 24, 25, 26, 27, 28, 29] (by kernel_rfl) z z (yi_off ((wanted_eq z z z (cvb hc830)).trans z)) (ws_q (v := undef) 18 [19, 20, 21, 22, 23, 24, 25, 26, 27, 28, 29] (by kernel_rfl) z z (yi_off ((wanted_eq z z z (cvb hc830)).trans z)) (ws_q (v := undef) 19 [20, 21, 22, 23, 24, 25, 26, 27, 28, 29] (by kernel_rfl) z z (yi_off ((wanted_eq z z z (cvb hc830)).trans z)) (ws_q (v := undef) 20 [21, 22, 23, 24, 25, 26, 27, 28, 29] (by kernel_rfl) z z (yi_off ((wanted_eq z z z (cvb hc830)).trans z)) (ws_q (v := undef) 21 [22, 23, 24, 25, 26, 27, 28, 29] (by kernel_rfl) z z (yi_off ((wanted_eq z z z (cvb hc830)).trans z)) (ws_q (v := undef) 22 [23, 24, 25, 26, 27, 28, 29] (by kernel_rfl) z z (yi_off ((wanted_eq z z z (cvb hc830)).trans z)) (ws_q (v := undef) 23 [24, 25, 26, 27, 28, 29] (by kernel_rfl) z z (yi_off ((wanted_eq z z z (cvb hc830)).trans z)) (ws_q (v := undef) 24 [25, 26, 27, 28, 29] (by kernel_rfl) z z (yi_off ((wanted_eq z z z (cvb hc830)).trans z)) (ws_q (v := undef) 25 [26, 27, 28, 29] (by kernel_rfl) z z (yi_off ((wanted_eq z z z (cvb hc830)).trans z)) (ws_q (v := undef) 26 [27, 28, 29] (by kernel_rfl) z z (yi_off ((wanted_eq z z z (cvb hc830)).trans z)) (ws_q (v := undef) 27 [28, 29] (by kernel_rfl) z z (yi_off ((wanted_eq z z z (cvb hc830)).trans z)) ?_))))))))))))
 refine ws_q (v := undef) 28 [29] (by kernel_rfl) z z (yi_off ((wanted_eq z z z (cvb hc830)).trans z)) (wsr (.bool true) 29 z z z (by kernel_rfl) (fun w hst => x_pick_t hc830 z z) ?_)
 refine ws_nil ?_
 intro w hst
 refine tn ?_
 refine wp_ift z ?_
 refine wp_seq (wrl (wv (.bool false) z z z (wl_nil (tn (wp_ret (blk_r (then_r (then_r ?_))))))))
 replace hm := inr_up hm hx812
 refine blk_r (then_r ?_)
 replace hm := inr_up hm hx840
 obtain rfl := some_inj hm
 refine post_ret (vs := [.bool false]) results89 (rvs_cons (rv_tmp z) rvs_nil) ?_
 exact ⟨z, hst.keep0⟩
}
 {
 replace hm := bif_f hc830 hm
 refine ws_q (v := Pt b676 4) 15 [16, 17, 18, 19, 20, 21, 22, 23, 24, 25, 26, 27, 28, 29] (by kernel_rfl) z z (yi_run ((wanted_eq z z z (cvb hc830)).trans z) (fun w hst => x_field z underlying46 z sizeOf44 z)) (ws_q (v := r0_1) 16 [17, 18, 19, 20, 21, 22, 23, 24, 25, 26, 27, 28, 29] (by kernel_rfl) z z (yi_run ((wanted_eq z z z (cvb hc830)).trans z) (fun w hst => x_load z isAgg44 (hst.bc0 z))) (ws_q (v := .int .i64 z805) 17 [18, 19, 20, 21, 22, 23, 24, 25, 26, 27, 28, 29] (by kernel_rfl) z z (yi_run ((wanted_eq z z z (cvb hc830)).trans z) (fun w hst => z)) (ws_q (v := .pointer (some (eAddr r0_1 (z805.toNat * 2 + 0)))) 18 [19, 20, 21, 22, 23, 24, 25, 26, 27, 28, 29] (by kernel_rfl) z z (yi_run ((wanted_eq z z z (cvb hc830)).trans z) (fun w hst => x_index z z underlying44 sizeOf80 (rd_sliceV f0_1) h817 h818)) (ws_q (v := .pointer (some (eAddr r0_1 (z805.toNat * 2 + 1)))) 19 [20, 21, 22, 23, 24, 25, 26, 27, 28, 29] (by kernel_rfl) z z (yi_run ((wanted_eq z z z (cvb hc830)).trans z) (fun w hst => x_index_arr_e (i := (1:Int)) z z underlying80 sizeOf37 (by decide) (by decide) z)) (ws_q (v := .float .f64 x815.2) 20 [21, 22, 23, 24, 25, 26, 27, 28, 29] (by kernel_rfl) z z (yi_run ((wanted_eq z z z (cvb hc830)).trans z) (fun w hst => x_load z isAgg37 (rd_load f0_1 (HL.le.refl _) hst hi819 (by rintro _ rfl; rfl)))) (ws_q (v := Pt b681 4) 21 [22, 23, 24, 25, 26, 27, 28, 29] (by kernel_rfl) z z (yi_run ((wanted_eq z z z (cvb hc830)).trans z) (fun w hst => x_field z underlying46 z sizeOf44 z)) (ws_q (v := r1_1) 22 [23, 24, 25, 26, 27, 28, 29] (by kernel_rfl) z z (yi_run ((wanted_eq z z z (cvb hc830)).trans z) (fun w hst => x_load z isAgg44 (hst.bc1 z))) (ws_q (v := .int .i64 z805) 23 [24, 25, 26, 27, 28, 29] (by kernel_rfl) z z (yi_run ((wanted_eq z z z (cvb hc830)).trans z) (fun w hst => z)) (ws_q (v := .pointer (some (eAddr r1_1 (z805.toNat * 2 + 0)))) 24 [25, 26, 27, 28, 29] (by kernel_rfl) z z (yi_run ((wanted_eq z z z (cvb hc830)).trans z) (fun w hst => x_index z z underlying44 sizeOf80 (rd_sliceV f1_1) h822 h823)) (ws_q (v := .pointer (some (eAddr r1_1 (z805.toNat * 2 + 1)))) 25 [26, 27, 28, 29] (by kernel_rfl) z z (yi_run ((wanted_eq z z z (cvb hc830)).trans z) (fun w hst => x_index_arr_e (i := (1:Int)) z z underlying80 sizeOf37 (by decide) (by decide) z)) (ws_q (v := .float .f64 x820.2) 26 [27, 28, 29] (by kernel_rfl) z z (yi_run ((wanted_eq z z z (cvb hc830)).trans z) (fun w hst => x_load z isAgg37 (rd_load f1_1 (HL.le.refl _) hst hi824 (by rintro _ rfl; rfl)))) ?_)))))))))))
 refine ws_e1 27 (by kernel_rfl) ?_
 refine nxe [28, 29] (by kernel_rfl) z ((wanted_eq z z z (cvb hc830)).trans z) ?_
 clear hst
 intro w hst
 obtain ⟨t831, ht832, hm⟩ := bind_some hm
 refine wec call20 [F6 x815.2, F6 x820.2] z z ?_
 refine (ref01_Same_ref hst.to0 ht832).mono ?_
 rintro _ w833 ⟨rfl, hst⟩
 refine ⟨_, z, ?_⟩
 replace hst := hst.of0
 refine ws_next (pend' := []) hst (by kernel_rfl) pk_nil ?_
 refine ws_q (v := .bool (!t831)) 28 [29] (by kernel_rfl) z z (yi_run ((wanted_eq z z z (cvb hc830)).trans z) (fun w hst => z)) (wsr (.bool (!t831)) 29 z z z (by kernel_rfl) (fun w hst => x_pick_f hc830 z z) ?_)
 refine ws_nil ?_
 intro w hst
 refine tn ?_
 refine bsplit (!t831) (fun hc836 => ?_) (fun hc836 => ?_)
 {
 replace hm := bif_t hc836 hm
 refine wp_ift (cvb hc836) ?_
 refine wp_seq (wrl (wv (.bool false) z z z (wl_nil (tn (wp_ret (blk_r (then_r (then_r ?_))))))))
 replace hm := inr_up hm hx812
 refine blk_r (then_r ?_)
 replace hm := inr_up hm hx840
 obtain rfl := some_inj hm
 refine post_ret (vs := [.bool false]) results89 (rvs_cons (rv_tmp z) rvs_nil) ?_
 exact ⟨z, hst.keep0⟩
}
 {
 replace hm := bif_f hc836 hm
 refine wp_iff (cvb hc836) ?_
 refine wp_skip (blk_n (tn (wrl ?_)))
 refine wv (.int .i64 z805) z z z (wv (.int .i64 (i64.wrap (z805 + (1:Int)))) z z z (wv (.int .i64 (i64.wrap (z805 + (1:Int)))) z z z (wl_nil (tn ?_))))
 replace hst := hst.pull1.pull1.keep2
 obtain rfl := some_inj hm
 exact ⟨_, Nat.lt_succ_self _, (i64.wrap (z805 + (1:Int))), _, hx812, (fu 2 (Pt b676 0) z (fu 3 (Pt b681 0) z (fu 6 (.int .i64 (i64.wrap (z805 + (1:Int)))) z z))), hst⟩
}
}
}
 {
 replace hm := bif_f hc814 hm
 refine wp_iff (cvb hc814) ?_
 refine wp_exit (then_x (then_x ?_))
 replace hm := inr_up hm hx812
 refine blk_x (tn ?_)
 replace hst := hst.pull1.pull1.keep2
 obtain rfl := some_inj hm
 exact ⟨_, hx840, (fu 2 (Pt b676 0) z (fu 3 (Pt b681 0) z z)), hst⟩
}
}
 {
 clear hst
 rintro _ w841 ⟨σ837, hm, rfl, hst⟩
 dsimp only [ref11_SameHold_j2] at hm
 refine wp_seq (wp_seq (wrl (wv (.int .i64 (0:Int)) z z z (wl_nil (tn (wp_block ?_))))))
 obtain ⟨n879, hm⟩ := loopO_some hm
 refine wp_loop_n (fun n a w => ∃ (z877 : Int) (σ878 : Nat → Value), loopN (ref11_SameHold_l4 a0 a1) n z877 = some r ∧ a = Fr 131 (upd (upd (upd σ878 2 (Pt b676 0)) 3 (Pt b681 0)) 7 (.int .i64 z877)) ∧ St w0 w I [cells b676 [U6 a0.ID.Session, U6 a0.ID.Seq, U6 a0.Epoch, r0_0, r0_1, r0_2, r0_3], cells b681 [U6 a1.ID.Session, U6 a1.ID.Seq, U6 a1.Epoch, r1_0, r1_1, r1_2, r1_3]] R) n879 ⟨(0:Int), _, hm, (fu 2 (Pt b676 0) z (fu 3 (Pt b681 0) z (fu 7 (.int .i64 (0:Int)) z z))), hst⟩ ?_
 rintro n885 _ w880 ⟨z877, σ878, hm, rfl, hst⟩
 obtain ⟨n882, y883, rfl, hm, hx884⟩ := loopN_some hm
 dsimp only [ref11_SameHold_l4] at hm
 refine wp_seq (wp_seq (wrl (wv (.int .i64 z877) z z z (wv (Pt b676 5) z z (x_field z underlying46 z sizeOf43 z) (wv (r0_2) z z (x_load z isAgg43 (hst.bc0 z)) (wv (.int .i64 ((a0.Puts).length : Int)) z z (x_len z underlying43 (rd_sliceV f0_2)) (wv (.bool (decide (z877 < ((a0.Puts).length : Int)))) z z z (wl_nil (tn ?_)))))))))
 refine bsplit (decide (z877 < ((a0.Puts).length : Int))) (fun hc886 => ?_) (fun hc886 => ?_)
 {
 replace hm := bif_t hc886 hm
 refine wp_ift (cvb hc886) ?_
 refine wp_skip (tn (wp_seq (wp_block (wp_seq ?_))))
 refine wp_region_St hst 12 [0, 1, 2, 3, 4, 5, 6, 7, 8, 9, 10, 11] [0, 1, 0, 7, 15, 0, 32, 0, 224, 480, 1023, 2047] [] z (by kernel_rfl) (by kernel_rfl) Tryz.mixed (by kernel_rfl) ?_
 refine wsr (Pt b676 5) 0 z z z (by kernel_rfl) (fun w hst => x_field z underlying46 z sizeOf43 z) (wsr (r0_2) 1 z z z (by kernel_rfl) (fun w hst => x_load z isAgg43 (hst.bc0 z)) (wsr (.int .i64 z877) 2 z z z (by kernel_rfl) (fun w hst => z) ?_))
 obtain ⟨x887, hx888, hm⟩ := bind_some hm
 obtain ⟨h889, h890, hi891⟩ := geto_some hx888
 refine wsr (.pointer (some (eAddr r0_2 (z877.toNat * 1 + 0)))) 3 z z z (by kernel_rfl) (fun w hst => x_index z z underlying43 sizeOf37 (rd_sliceV f0_2) h889 h890) (wsr (.float .f64 x887) 4 z z z (by kernel_rfl) (fun w hst => x_load z isAgg37 (rd_load f0_2 (HL.le.refl _) hst hi891 (by rintro _ rfl; rfl))) (wsr (Pt b681 5) 5 z z z (by kernel_rfl) (fun w hst => x_field z underlying46 z sizeOf43 z) (wsr (r1_2) 6 z z z (by kernel_rfl) (fun w hst => x_load z isAgg43 (hst.bc1 z)) (wsr (.int .i64 z877) 7 z z z (by kernel_rfl) (fun w hst => z) ?_))))
 obtain ⟨x892, hx893, hm⟩ := bind_some hm
 obtain ⟨h894, h895, hi896⟩ := geto_some hx893
 refine wsr (.pointer (some (eAddr r1_2 (z877.toNat * 1 + 0)))) 8 z z z (by kernel_rfl) (fun w hst => x_index z z underlying43 sizeOf37 (rd_sliceV f1_2) h894 h895) (wsr (.float .f64 x892) 9 z z z (by kernel_rfl) (fun w hst => x_load z isAgg37 (rd_load f1_2 (HL.le.refl _) hst hi896 (by rintro _ rfl; rfl))) ?_)
 refine ws_e1 10 (by kernel_rfl) ?_
 refine nxe [11] (by kernel_rfl) z z ?_
 clear hst
 intro w hst
 obtain ⟨t897, ht898, hm⟩ := bind_some hm
 refine wec call20 [F6 x887, F6 x892] z z ?_
 refine (ref01_Same_ref hst.to0 ht898).mono ?_
 rintro _ w899 ⟨rfl, hst⟩
 refine ⟨_, z, ?_⟩
 replace hst := hst.of0
 refine ws_next (pend' := []) hst (by kernel_rfl) pk_nil ?_
 refine wsr (.bool (!t897)) 11 z z z (by kernel_rfl) (fun w hst => z) ?_
 refine ws_nil ?_
 intro w hst
 refine tn ?_
 refine bsplit (!t897) (fun hc902 => ?_) (fun hc902 => ?_)
 {
 replace hm := bif_t hc902 hm
 refine wp_ift (cvb hc902) ?_
 refine wp_seq (wrl (wv (.bool false) z z z (wl_nil (tn (wp_ret (blk_r (then_r (then_r ?_))))))))
 replace hm := inr_up hm hx884
 refine blk_r (then_r ?_)
 obtain rfl := some_inj hm
 refine post_ret (vs := [.bool false]) results89 (rvs_cons (rv_tmp z) rvs_nil) ?_
 exact ⟨z, hst.keep0⟩
}
 {
 replace hm := bif_f hc902 hm
 refine wp_iff (cvb hc902) ?_
 refine wp_skip (blk_n (tn (wrl ?_)))
 refine wv (.int .i64 z877) z z z (wv (.int .i64 (i64.wrap (z877 + (1:Int)))) z z z (wv (.int .i64 (i64.wrap (z877 + (1:Int)))) z z z (wl_nil (tn ?_))))
 replace hst := hst.pull1.pull1.keep2
 obtain rfl := some_inj hm
 exact ⟨_, Nat.lt_succ_self _, (i64.wrap (z877 + (1:Int))), _, hx884, (fu 2 (Pt b676 0) z (fu 3 (Pt b681 0) z (fu 7 (.int .i64 (i64.wrap (z877 + (1:Int)))) z z))), hst⟩
}
}
 {
 replace hm := bif_f hc886 hm
 refine wp_iff (cvb hc886) ?_
 refine wp_exit (then_x (then_x ?_))
 replace hm := inr_up hm hx884
 refine blk_x (tn (wp_seq (wrl ?_)))
 refine wv (.bool true) z z z (wl_nil (tn (wp_ret ?_)))
 obtain rfl := some_inj hm
 refine post_ret (vs := [.bool true]) results89 (rvs_cons (rv_tmp z) rvs_nil) ?_
 exact ⟨z, hst.keep0⟩
}
}
}
}
}
}
}
}
}
}

theorem ref11_has_ref {w0 w : World} {I : HL} {R : SP} {a0 : (List Nat)} {r0_0 : Value} {a1 : Nat} (f0_0 : Rd tyF64 R I r0_0 a0) (hst : St w0 w I [] R) {r : (Bool)} (hm : ref11_has a0 a1 = some r) :
  Calls prog 220 #[r0_0, F6 a1] w fun e w' => e = .returned (.bool r) ∧ St w0 w' I [] R := by {
 unfold ref11_has at hm
 refine calls_start (args := [r0_0, F6 a1]) func220 z ntmps220 (Nat.le_of_ble_eq_true z) ?_
 refine wp_seq (wrl (wv (.bool false) z z z (wl_nil (tn (wp_seq (wp_seq (wrl (wv (.int .i64 (0:Int)) z z z (wl_nil (tn (wp_block ?_)))))))))))
 obtain ⟨n585, hm⟩ := loopO_some hm
 refine wp_loop_n (fun n a w => ∃ (z583 : Int) (σ584 : Nat → Value), loopN (ref11_has_l0 a0 a1) n z583 = some r ∧ a = Fr 18 (upd (upd (upd σ584 0 (r0_0)) 1 (.float .f64 a1)) 5 (.int .i64 z583)) ∧ St w0 w I [] R) n585 ⟨(0:Int), _, hm, (fu 0 r0_0 z (fu 1 (.float .f64 a1) z (fu 5 (.int .i64 (0:Int)) z z))), hst⟩ ?_
 rintro n591 _ w586 ⟨z583, σ584, hm, rfl, hst⟩
 obtain ⟨n588, y589, rfl, hm, hx590⟩ := loopN_some hm
 dsimp only [ref11_has_l0] at hm
 refine wp_seq (wp_seq (wrl (wv (.int .i64 z583) z z z (wv (r0_0) z z z (wv (.int .i64 ((a0).length : Int)) z z (x_len z underlying43 (rd_sliceV f0_0)) (wv (.bool (decide (z583 < ((a0).length : Int)))) z z z (wl_nil (tn ?_))))))))
 refine bsplit (decide (z583 < ((a0).length : Int))) (fun hc592 => ?_) (fun hc592 => ?_)
 {
 replace hm := bif_t hc592 hm
 refine wp_ift (cvb hc592) ?_
 refine wp_skip (tn (wp_seq (wp_block (wp_seq (wrl ?_)))))
 refine wv (r0_0) z z z (wv (.int .i64 z583) z z z ?_)
 obtain ⟨x593, hx594, hm⟩ := bind_some hm
 obtain ⟨h595, h596, hi597⟩ := geto_some hx594
 refine wv (.pointer (some (eAddr r0_0 (z583.toNat * 1 + 0)))) z z (x_index z z underlying43 sizeOf37 (rd_sliceV f0_0) h595 h596) (wv (.float .f64 x593) z z (x_load z isAgg37 (rd_load f0_0 (HL.le.refl _) hst hi597 (by rintro _ rfl; rfl))) (wv (.float .f64 a1) z z z ?_))
 obtain ⟨t598, ht599, hm⟩ := bind_some hm
 refine wc call20 [F6 x593, F6 a1] z z z ?_
 refine (ref01_Same_ref hst.to0 ht599).mono ?_
 rintro _ w600 ⟨rfl, hst⟩
 refine ⟨_, z, ?_⟩
 replace hst := hst.of0
 refine wl_nil (tn ?_)
 refine bsplit t598 (fun hc603 => ?_) (fun hc603 => ?_)
 {
 replace hm := bif_t hc603 hm
 refine wp_ift (cvb hc603) ?_
 refine wp_seq (wrl (wv (.bool true) z z z (wl_nil (tn (wp_ret (blk_r (then_r (then_r ?_))))))))
 replace hm := inr_up hm hx590
 refine blk_r (then_r ?_)
 obtain rfl := some_inj hm
 refine post_ret (vs := [.bool true]) results220 (rvs_cons (rv_tmp z) rvs_nil) ?_
 exact ⟨z, hst.keep0⟩
}
 {
 replace hm := bif_f hc603 hm
 refine wp_iff (cvb hc603) ?_
 refine wp_skip (blk_n (tn (wrl ?_)))
 refine wv (.int .i64 z583) z z z (wv (.int .i64 (i64.wrap (z583 + (1:Int)))) z z z (wv (.int .i64 (i64.wrap (z583 + (1:Int)))) z z z (wl_nil (tn ?_))))
 replace hst := hst.keep0
 obtain rfl := some_inj hm
 exact ⟨_, Nat.lt_succ_self _, (i64.wrap (z583 + (1:Int))), _, hx590, (fu 0 r0_0 z (fu 1 (.float .f64 a1) z (fu 5 (.int .i64 (i64.wrap (z583 + (1:Int)))) z z))), hst⟩
}
}
 {
 replace hm := bif_f hc592 hm
 refine wp_iff (cvb hc592) ?_
 refine wp_exit (then_x (then_x ?_))
 replace hm := inr_up hm hx590
 refine blk_x (tn (wp_seq (wrl ?_)))
 refine wv (.bool false) z z z (wl_nil (tn (wp_ret ?_)))
 obtain rfl := some_inj hm
 refine post_ret (vs := [.bool false]) results220 (rvs_cons (rv_tmp z) rvs_nil) ?_
 exact ⟨z, hst.keep0⟩
}
}

theorem ref01_Within_ref {w0 w : World} {I : HL} {R : SP} {a0 : Nat} {a1 : Nat} {a2 : Nat}  (hst : St w0 w I [] R) {r : (Bool)} (hm : ref01_Within a0 a1 a2 = some r) :
  Calls prog 153 #[F6 a0, F6 a1, F6 a2] w fun e w' => e = .returned (.bool r) ∧ St w0 w' I [] R := by {
 unfold ref01_Within at hm
 refine calls_start (args := [F6 a0, F6 a1, F6 a2]) func153 z ntmps153 (Nat.le_of_ble_eq_true z) ?_
 refine wp_seq (wrl (wv (.bool false) z z z (wl_nil (tn (wp_seq (wrl (wv (.float .f64 a0) z z z (wv (.float .f64 a1) z z z ?_))))))))
 obtain ⟨t531, ht532, hm⟩ := bind_some hm
 refine wc call59 [F6 a0, F6 a1] z z z ?_
 refine (ref01_Ahead_ref hst.to0 ht532).mono ?_
 rintro _ w533 ⟨rfl, hst⟩
 refine ⟨_, z, ?_⟩
 replace hst := hst.of0
 refine wv (.bool (!t531)) z z z (wv (.bool (!t531)) z z z ?_)
 refine bsplit (!t531) (fun hc536 => ?_) (fun hc536 => ?_)
 {
 replace hm := bif_t hc536 hm
 refine wv (.float .f64 a2) ((wanted_eq z z z (cvb hc536)).trans z) z z (wv (.float .f64 a0) ((wanted_eq z z z (cvb hc536)).trans z) z z ?_)
 obtain ⟨t537, ht538, hm⟩ := bind_some hm
 refine wl_call ((wanted_eq z z z (cvb hc536)).trans z) z (x_call call59 z (vs := [F6 a2, F6 a0]) z) ?_
 refine (ref01_Ahead_ref hst.to0 ht538).mono ?_
 rintro _ w539 ⟨rfl, hst⟩
 refine ⟨_, z, ?_⟩
 replace hst := hst.of0
 refine wv (.bool (!t537)) ((wanted_eq z z z (cvb hc536)).trans z) z z (wv (.bool (!t537)) z z (x_pick_t hc536 z z) (wv (.bool (!t537)) z z z (wl_nil (tn (wp_ret ?_)))))
 obtain rfl := some_inj hm
 refine post_ret (vs := [.bool (!t537)]) results153 (rvs_cons (rv_tmp z) rvs_nil) ?_
 exact ⟨z, hst.keep0⟩
}
 {
 replace hm := bif_f hc536 hm
 refine wo hc536 z z z z z z (wo hc536 z z z z z z (wo hc536 z z z z z z (wo hc536 z z z z z z (wv (.bool false) z z (x_pick_f hc536 z z) (wv (.bool false) z z z (wl_nil (tn (wp_ret ?_))))))))
 obtain rfl := some_inj hm
 refine post_ret (vs := [.bool false]) results153 (rvs_cons (rv_tmp z) rvs_nil) ?_
 exact ⟨z, hst.keep0⟩
}
}

theorem ref11_reads_ref {w0 w : World} {I : HL} {R : SP} {a0 : api_Hold} {r0_0 : Value} {r0_1 : Value} {r0_2 : Value} {r0_3 : Value} {a1 : Nat} (f0_0 : Rd tyF64 R I r0_0 a0.Gets) (f0_1 : Rd tyF2 R I r0_1 a0.Scans) (f0_2 : Rd tyF64 R I r0_2 a0.Puts) (f0_3 : Rd (tyInt .u8) R I r0_3 a0.Data) (hst : St w0 w I [] R) {r : (Bool)} (hm : ref11_reads a0 a1 = some r) :
  Calls prog 221 #[.agg #[U6 a0.ID.Session, U6 a0.ID.Seq, U6 a0.Epoch, r0_0, r0_1, r0_2, r0_3], F6 a1] w fun e w' => e = .returned (.bool r) ∧ St w0 w' I [] R := by {
 unfold ref11_reads at hm
 refine calls_start (args := [.agg #[U6 a0.ID.Session, U6 a0.ID.Seq, U6 a0.Epoch, r0_0, r0_1, r0_2, r0_3], F6 a1]) func221 z ntmps221 (Nat.le_of_ble_eq_true z) ?_
 refine wp_seq (wrl ?_)
 obtain ⟨b579, w580, ew581, eb582, hst⟩ := hst.box [U6 a0.ID.Session, U6 a0.ID.Seq, U6 a0.Epoch, r0_0, r0_1, r0_2, r0_3] 46
 refine wl_run (v := Pt b579 0) (w' := w580) z z (x_al (by kernel_rfl) ew581 eb582) ?_
 refine wv (.bool false) z z z (wl_nil (tn ?_))
 obtain ⟨y632, hm, hx633⟩ := joinO_some hm
 refine wp_cut (fun a w => ∃ (σ630 : Nat → Value), (ref11_reads_j0 a0 a1) () = some r ∧ a = Fr 31 (upd (upd σ630 1 (.float .f64 a1)) 2 (Pt b579 0)) ∧ St w0 w I [cells b579 [U6 a0.ID.Session, U6 a0.ID.Seq, U6 a0.Epoch, r0_0, r0_1, r0_2, r0_3]] R) ?_ ?_
 {
 refine wp_seq (wrl (wv (.int .i64 (0:Int)) z z z (wl_nil (tn (wp_block ?_)))))
 obtain ⟨n611, hm⟩ := loopO_some hm
 refine wp_loop_n (fun n a w => ∃ (z609 : Int) (σ610 : Nat → Value), loopN (ref11_reads_l1 a0 a1) n z609 = some y632 ∧ a = Fr 31 (upd (upd (upd σ610 1 (.float .f64 a1)) 2 (Pt b579 0)) 5 (.int .i64 z609)) ∧ St w0 w I [cells b579 [U6 a0.ID.Session, U6 a0.ID.Seq, U6 a0.Epoch, r0_0, r0_1, r0_2, r0_3]] R) n611 ⟨(0:Int), _, hm, (fu 1 (.float .f64 a1) z (fu 2 (Pt b579 0) z (fu 5 (.int .i64 (0:Int)) z z))), hst⟩ ?_
 rintro n617 _ w612 ⟨z609, σ610, hm, rfl, hst⟩
 obtain ⟨n614, y615, rfl, hm, hx616⟩ := loopN_some hm
 dsimp only [ref11_reads_l1] at hm
 refine wp_seq (wp_seq (wrl (wv (.int .i64 z609) z z z (wv (Pt b579 4) z z (x_field z underlying46 z sizeOf44 z) (wv (r0_1) z z (x_load z isAgg44 (hst.bc0 z)) (wv (.int .i64 ((a0.Scans).length : Int)) z z (x_len z underlying44 (rd_sliceV f0_1)) (wv (.bool (decide (z609 < ((a0.Scans).length : Int)))) z z z (wl_nil (tn ?_)))))))))
 refine bsplit (decide (z609 < ((a0.Scans).length : Int))) (fun hc618 => ?_) (fun hc618 => ?_)
 {
 replace hm := bif_t hc618 hm
 refine wp_ift (cvb hc618) ?_
 refine wp_skip (tn (wp_seq (wp_block (wp_seq ?_))))
 refine wp_region_St hst 14 [0, 1, 2, 3, 4, 5, 6, 7, 8, 9, 10, 11, 12, 13] [0, 0, 2, 0, 14, 30, 62, 0, 128, 0, 896, 1920, 3968, 8191] [] z (by kernel_rfl) (by kernel_rfl) Tryz.mixed (by kernel_rfl) ?_
 refine wsr (.float .f64 a1) 0 z z z (by kernel_rfl) (fun w hst => z) (wsr (Pt b579 4) 1 z z z (by kernel_rfl) (fun w hst => x_field z underlying46 z sizeOf44 z) (wsr (r0_1) 2 z z z (by kernel_rfl) (fun w hst => x_load z isAgg44 (hst.bc0 z)) (wsr (.int .i64 z609) 3 z z z (by kernel_rfl) (fun w hst => z) ?_)))
 obtain ⟨x619, hx620, hm⟩ := bind_some hm
 obtain ⟨h621, h622, hi623⟩ := geto_some hx620
 refine wsr (.pointer (some (eAddr r0_1 (z609.toNat * 2 + 0)))) 4 z z z (by kernel_rfl) (fun w hst => x_index z z underlying44 sizeOf80 (rd_sliceV f0_1) h621 h622) (wsr (.pointer (some (eAddr r0_1 (z609.toNat * 2 + 0)))) 5 z z z (by kernel_rfl) (fun w hst => x_index_arr_e (i := (0:Int)) z z underlying80 sizeOf37 (by decide) (by decide) z) (wsr (.float .f64 x619.1) 6 z z z (by kernel_rfl) (fun w hst => x_load z isAgg37 (rd_load f0_1 (HL.le.refl _) hst hi623 (by rintro _ rfl; rfl))) (wsr (Pt b579 4) 7 z z z (by kernel_rfl) (fun w hst => x_field z underlying46 z sizeOf44 z) (wsr (r0_1) 8 z z z (by kernel_rfl) (fun w hst => x_load z isAgg44 (hst.bc0 z)) (wsr (.int .i64 z609) 9 z z z (by kernel_rfl) (fun w hst => z) (wsr (.pointer (some (eAddr r0_1 (z609.toNat * 2 + 0)))) 10 z z z (by kernel_rfl) (fun w hst => x_index z z underlying44 sizeOf80 (rd_sliceV f0_1) h621 h622) (wsr (.pointer (some (eAddr r0_1 (z609.toNat * 2 + 1)))) 11 z z z (by kernel_rfl) (fun w hst => x_index_arr_e (i := (1:Int)) z z underlying80 sizeOf37 (by decide) (by decide) z) (wsr (.float .f64 x619.2) 12 z z z (by kernel_rfl) (fun w hst => x_load z isAgg37 (rd_load f0_1 (HL.le.refl _) hst hi623 (by rintro _ rfl; rfl))) ?_))))))))
 refine ws_e1 13 (by kernel_rfl) ?_
 refine nxe [] (by kernel_rfl) z z ?_
 clear hst
 intro w hst
 obtain ⟨t624, ht625, hm⟩ := bind_some hm
 refine wec call153 [F6 a1, F6 x619.1, F6 x619.2] z z ?_
 refine (ref01_Within_ref hst.to0 ht625).mono ?_
 rintro _ w626 ⟨rfl, hst⟩
 refine ⟨_, z, ?_⟩
 replace hst := hst.of0
 refine ws_next (pend' := []) hst (by kernel_rfl) pk_nil ?_
 refine ws_nil ?_
 intro w hst
 refine tn ?_
 refine bsplit t624 (fun hc629 => ?_) (fun hc629 => ?_)
 {
 replace hm := bif_t hc629 hm
 refine wp_ift (cvb hc629) ?_
 refine wp_seq (wrl (wv (.bool true) z z z (wl_nil (tn (wp_ret (blk_r (then_r (then_r ?_))))))))
 replace hm := inr_up hm hx616
 refine blk_r (then_r ?_)
 replace hm := inr_up hm hx633
 obtain rfl := some_inj hm
 refine post_ret (vs := [.bool true]) results221 (rvs_cons (rv_tmp z) rvs_nil) ?_
 exact ⟨z, hst.keep0⟩
}
 {
 replace hm := bif_f hc629 hm
 refine wp_iff (cvb hc629) ?_
 refine wp_skip (blk_n (tn (wrl ?_)))
 refine wv (.int .i64 z609) z z z (wv (.int .i64 (i64.wrap (z609 + (1:Int)))) z z z (wv (.int .i64 (i64.wrap (z609 + (1:Int)))) z z z (wl_nil (tn ?_))))
 replace hst := hst.keep1
 obtain rfl := some_inj hm
 exact ⟨_, Nat.lt_succ_self _, (i64.wrap (z609 + (1:Int))), _, hx616, (fu 1 (.float .f64 a1) z (fu 2 (Pt b579 0) z (fu 5 (.int .i64 (i64.wrap (z609 + (1:Int)))) z z))), hst⟩
}
}
 {
 replace hm := bif_f hc618 hm
 refine wp_iff (cvb hc618) ?_
 refine wp_exit (then_x (then_x ?_))
 replace hm := inr_up hm hx616
 refine blk_x (tn ?_)
 replace hst := hst.keep1
 obtain rfl := some_inj hm
 exact ⟨_, hx633, (fu 1 (.float .f64 a1) z (fu 2 (Pt b579 0) z z)), hst⟩
}
}
 {
 clear hst
 rintro _ w634 ⟨σ630, hm, rfl, hst⟩
 dsimp only [ref11_reads_j0] at hm
 refine wp_seq (wrl (wv (Pt b579 3) z z (x_field z underlying46 z sizeOf43 z) (wv (r0_0) z z (x_load z isAgg43 (hst.bc0 z)) (wv (.float .f64 a1) z z z ?_))))
 obtain ⟨t635, ht636, hm⟩ := bind_some hm
 refine wc call220 [r0_0, F6 a1] z z z ?_
 refine (ref11_has_ref (f0_0.mono (rd_weak _)) hst.to0 ht636).mono ?_
 rintro _ w637 ⟨rfl, hst⟩
 refine ⟨_, z, ?_⟩
 replace hst := hst.of0
 refine wv (.bool t635) z z z (wl_nil (tn (wp_ret ?_)))
 obtain rfl := some_inj hm
 refine post_ret (vs := [.bool t635]) results221 (rvs_cons (rv_tmp z) rvs_nil) ?_
 exact ⟨z, hst.keep0⟩
}
}

theorem ref11_Meet_ref {w0 w : World} {I : HL} {R : SP} {a0 : api_Hold} {r0_0 : Value} {r0_1 : Value} {r0_2 : Value} {r0_3 : Value} {a1 : api_Hold} {r1_0 : Value} {r1_1 : Value} {r1_2 : Value} {r1_3 : Value} (f0_0 : Rd tyF64 R I r0_0 a0.Gets) (f0_1 : Rd tyF2 R I r0_1 a0.Scans) (f0_2 : Rd tyF64 R I r0_2 a0.Puts) (f0_3 : Rd (tyInt .u8) R I r0_3 a0.Data) (f1_0 : Rd tyF64 R I r1_0 a1.Gets) (f1_1 : Rd tyF2 R I r1_1 a1.Scans) (f1_2 : Rd tyF64 R I r1_2 a1.Puts) (f1_3 : Rd (tyInt .u8) R I r1_3 a1.Data) (hst : St w0 w I [] R) {r : (Bool)} (hm : ref11_Meet a0 a1 = some r) :
  Calls prog 202 #[.agg #[U6 a0.ID.Session, U6 a0.ID.Seq, U6 a0.Epoch, r0_0, r0_1, r0_2, r0_3], .agg #[U6 a1.ID.Session, U6 a1.ID.Seq, U6 a1.Epoch, r1_0, r1_1, r1_2, r1_3]] w fun e w' => e = .returned (.bool r) ∧ St w0 w' I [] R := by {
 unfold ref11_Meet at hm
 refine calls_start (args := [.agg #[U6 a0.ID.Session, U6 a0.ID.Seq, U6 a0.Epoch, r0_0, r0_1, r0_2, r0_3], .agg #[U6 a1.ID.Session, U6 a1.ID.Seq, U6 a1.Epoch, r1_0, r1_1, r1_2, r1_3]]) func202 z ntmps202 (Nat.le_of_ble_eq_true z) ?_
 refine wp_seq (wrl ?_)
 obtain ⟨b632, w633, ew634, eb635, hst⟩ := hst.box [U6 a0.ID.Session, U6 a0.ID.Seq, U6 a0.Epoch, r0_0, r0_1, r0_2, r0_3] 46
 refine wl_run (v := Pt b632 0) (w' := w633) z z (x_al (by kernel_rfl) ew634 eb635) ?_
 obtain ⟨b637, w638, ew639, eb640, hst⟩ := hst.box [U6 a1.ID.Session, U6 a1.ID.Seq, U6 a1.Epoch, r1_0, r1_1, r1_2, r1_3] 46
 refine wl_run (v := Pt b637 0) (w' := w638) z z (x_al (by kernel_rfl) ew639 eb640) ?_
 refine wv (.bool false) z z z (wl_nil (tn ?_))
 obtain ⟨y708, hm, hx709⟩ := joinO_some hm
 refine wp_cut (fun a w => ∃ (σ706 : Nat → Value), (ref11_Meet_j0 a1 a0) () = some r ∧ a = Fr 45 (upd (upd σ706 2 (Pt b632 0)) 3 (Pt b637 0)) ∧ St w0 w I [cells b632 [U6 a0.ID.Session, U6 a0.ID.Seq, U6 a0.Epoch, r0_0, r0_1, r0_2, r0_3], cells b637 [U6 a1.ID.Session, U6 a1.ID.Seq, U6 a1.Epoch, r1_0, r1_1, r1_2, r1_3]] R) ?_ ?_
 {
 refine wp_seq (wrl (wv (.int .i64 (0:Int)) z z z (wl_nil (tn (wp_block ?_)))))
 obtain ⟨n681, hm⟩ := loopO_some hm
 refine wp_loop_n (fun n a w => ∃ (z679 : Int) (σ680 : Nat → Value), loopN (ref11_Meet_l1 a0 a1) n z679 = some y708 ∧ a = Fr 45 (upd (upd (upd σ680 2 (Pt b632 0)) 3 (Pt b637 0)) 5 (.int .i64 z679)) ∧ St w0 w I [cells b637 [U6 a1.ID.Session, U6 a1.ID.Seq, U6 a1.Epoch, r1_0, r1_1, r1_2, r1_3], cells b632 [U6 a0.ID.Session, U6 a0.ID.Seq, U6 a0.Epoch, r0_0, r0_1, r0_2, r0_3]] R) n681 ⟨(0:Int), _, hm, (fu 2 (Pt b632 0) z (fu 3 (Pt b637 0) z (fu 5 (.int .i64 (0:Int)) z z))), hst⟩ ?_
 rintro n687 _ w682 ⟨z679, σ680, hm, rfl, hst⟩
 obtain ⟨n684, y685, rfl, hm, hx686⟩ := loopN_some hm
 dsimp only [ref11_Meet_l1] at hm
 refine wp_seq (wp_seq (wrl (wv (.int .i64 z679) z z z (wv (Pt b632 5) z z (x_field z underlying46 z sizeOf43 z) (wv (r0_2) z z (x_load z isAgg43 (hst.bc1 z)) (wv (.int .i64 ((a0.Puts).length : Int)) z z (x_len z underlying43 (rd_sliceV f0_2)) (wv (.bool (decide (z679 < ((a0.Puts).length : Int)))) z z z (wl_nil (tn ?_)))))))))
 refine bsplit (decide (z679 < ((a0.Puts).length : Int))) (fun hc688 => ?_) (fun hc688 => ?_)
 {
 replace hm := bif_t hc688 hm
 refine wp_ift (cvb hc688) ?_
 refine wp_skip (tn (wp_seq (wp_block (wp_seq ?_))))
 refine wp_region_St hst 17 [0, 1, 2, 3, 4, 5, 6, 7, 8, 9, 10, 11, 12, 13, 14, 15, 16] [0, 1, 0, 4, 0, 28, 60, 127, 255, 511, 511, 1535, 511, 7679, 15871, 32767, 65535] [] z (by kernel_rfl) (by kernel_rfl) Tryz.mixed (by kernel_rfl) ?_
 refine wsr (Pt b637 5) 0 z z z (by kernel_rfl) (fun w hst => x_field z underlying46 z sizeOf43 z) (wsr (r1_2) 1 z z z (by kernel_rfl) (fun w hst => x_load z isAgg43 (hst.bc0 z)) (wsr (Pt b632 5) 2 z z z (by kernel_rfl) (fun w hst => x_field z underlying46 z sizeOf43 z) (wsr (r0_2) 3 z z z (by kernel_rfl) (fun w hst => x_load z isAgg43 (hst.bc1 z)) (wsr (.int .i64 z679) 4 z z z (by kernel_rfl) (fun w hst => z) ?_))))
 obtain ⟨x689, hx690, hm⟩ := bind_some hm
 obtain ⟨h691, h692, hi693⟩ := geto_some hx690
 refine wsr (.pointer (some (eAddr r0_2 (z679.toNat * 1 + 0)))) 5 z z z (by kernel_rfl) (fun w hst => x_index z z underlying43 sizeOf37 (rd_sliceV f0_2) h691 h692) (wsr (.float .f64 x689) 6 z z z (by kernel_rfl) (fun w hst => x_load z isAgg37 (rd_load f0_2 (HL.le.refl _) hst hi693 (by rintro _ rfl; rfl))) ?_)
 refine ws_e1 7 (by kernel_rfl) ?_
 refine nxe [8, 9, 10, 11, 12, 13, 14, 15, 16] (by kernel_rfl) z z ?_
 clear hst
 intro w hst
 obtain ⟨t694, ht695, hm⟩ := bind_some hm
 refine wec call220 [r1_2, F6 x689] z z ?_
 refine (ref11_has_ref (f1_2.mono (rd_weak _)) hst.to0 ht695).mono ?_
 rintro _ w696 ⟨rfl, hst⟩
 refine ⟨_, z, ?_⟩
 replace hst := hst.of0
 refine ws_next (pend' := []) hst (by kernel_rfl) pk_nil ?_
 refine wsr (.bool t694) 8 z z z (by kernel_rfl) (fun w hst => z) ?_
 refine bsplit t694 (fun hc699 => ?_) (fun hc699 => ?_)
 {
 replace hm := bif_t hc699 hm
 refine ws_q (v := undef) 9 [10, 11, 12, 13, 14, 15, 16] (by kernel_rfl) z z (yi_off ((wanted_eq z z z (cvb hc699)).trans z)) (ws_q (v := undef) 10 [11, 12, 13, 14, 15, 16] (by kernel_rfl) z z (yi_off ((wanted_eq z z z (cvb hc699)).trans z)) (ws_q (v := undef) 11 [12, 13, 14, 15, 16] (by kernel_rfl) z z (yi_off ((wanted_eq z z z (cvb hc699)).trans z)) (ws_q (v := undef) 12 [13, 14, 15, 16] (by kernel_rfl) z z (yi_off ((wanted_eq z z z (cvb hc699)).trans z)) (ws_q (v := undef) 13 [14, 15, 16] (by kernel_rfl) z z (yi_off ((wanted_eq z z z (cvb hc699)).trans z)) (ws_q (v := undef) 14 [15, 16] (by kernel_rfl) z z (yi_off ((wanted_eq z z z (cvb hc699)).trans z)) (ws_q (v := undef) 15 [16] (by kernel_rfl) z z (yi_off ((wanted_eq z z z (cvb hc699)).trans z)) (wsr (.bool true) 16 z z z (by kernel_rfl) (fun w hst => x_pick_t hc699 z z) ?_)))))))
 refine ws_nil ?_
 intro w hst
 refine tn ?_
 refine wp_ift z ?_
 refine wp_seq (wrl (wv (.bool true) z z z (wl_nil (tn (wp_ret (blk_r (then_r (then_r ?_))))))))
 replace hm := inr_up hm hx686
 refine blk_r (then_r ?_)
 replace hm := inr_up hm hx709
 obtain rfl := some_inj hm
 refine post_ret (vs := [.bool true]) results202 (rvs_cons (rv_tmp z) rvs_nil) ?_
 exact ⟨z, hst.keep0⟩
}
 {
 replace hm := bif_f hc699 hm
 refine ws_q (v := .agg #[U6 a1.ID.Session, U6 a1.ID.Seq, U6 a1.Epoch, r1_0, r1_1, r1_2, r1_3]) 9 [10, 11, 12, 13, 14, 15, 16] (by kernel_rfl) z z (yi_run ((wanted_eq z z z (cvb hc699)).trans z) (fun w hst => x_loadN (cs := [U6 a1.ID.Session, U6 a1.ID.Seq, U6 a1.Epoch, r1_0, r1_1, r1_2, r1_3]) z isAgg46 sizeOf46 (hst.bcs0 0 z))) (ws_q (v := Pt b632 5) 10 [11, 12, 13, 14, 15, 16] (by kernel_rfl) z z (yi_run ((wanted_eq z z z (cvb hc699)).trans z) (fun w hst => x_field z underlying46 z sizeOf43 z)) (ws_q (v := r0_2) 11 [12, 13, 14, 15, 16] (by kernel_rfl) z z (yi_run ((wanted_eq z z z (cvb hc699)).trans z) (fun w hst => x_load z isAgg43 (hst.bc1 z))) (ws_q (v := .int .i64 z679) 12 [13, 14, 15, 16] (by kernel_rfl) z z (yi_run ((wanted_eq z z z (cvb hc699)).trans z) (fun w hst => z)) (ws_q (v := .pointer (some (eAddr r0_2 (z679.toNat * 1 + 0)))) 13 [14, 15, 16] (by kernel_rfl) z z (yi_run ((wanted_eq z z z (cvb hc699)).trans z) (fun w hst => x_index z z underlying43 sizeOf37 (rd_sliceV f0_2) h691 h692)) (ws_q (v := .float .f64 x689) 14 [15, 16] (by kernel_rfl) z z (yi_run ((wanted_eq z z z (cvb hc699)).trans z) (fun w hst => x_load z isAgg37 (rd_load f0_2 (HL.le.refl _) hst hi693 (by rintro _ rfl; rfl)))) ?_)))))
 refine ws_e1 15 (by kernel_rfl) ?_
 refine nxe [16] (by kernel_rfl) z ((wanted_eq z z z (cvb hc699)).trans z) ?_
 clear hst
 intro w hst
 obtain ⟨t700, ht701, hm⟩ := bind_some hm
 refine wec call221 [.agg #[U6 a1.ID.Session, U6 a1.ID.Seq, U6 a1.Epoch, r1_0, r1_1, r1_2, r1_3], F6 x689] z z ?_
 refine (ref11_reads_ref (f1_0.mono (rd_weak _)) (f1_1.mono (rd_weak _)) (f1_2.mono (rd_weak _)) (f1_3.mono (rd_weak _)) hst.to0 ht701).mono ?_
 rintro _ w702 ⟨rfl, hst⟩
 refine ⟨_, z, ?_⟩
 replace hst := hst.of0
 refine ws_next (pend' := []) hst (by kernel_rfl) pk_nil ?_
 refine wsr (.bool t700) 16 z z z (by kernel_rfl) (fun w hst => x_pick_f hc699 z z) ?_
 refine ws_nil ?_
 intro w hst
 refine tn ?_
 refine bsplit t700 (fun hc705 => ?_) (fun hc705 => ?_)
 {
 replace hm := bif_t hc705 hm
 refine wp_ift (cvb hc705) ?_
 refine wp_seq (wrl (wv (.bool true) z z z (wl_nil (tn (wp_ret (blk_r (then_r (then_r ?_))))))))
 replace hm := inr_up hm hx686
 refine blk_r (then_r ?_)
 replace hm := inr_up hm hx709
 obtain rfl := some_inj hm
 refine post_ret (vs := [.bool true]) results202 (rvs_cons (rv_tmp z) rvs_nil) ?_
 exact ⟨z, hst.keep0⟩
}
 {
 replace hm := bif_f hc705 hm
 refine wp_iff (cvb hc705) ?_
 refine wp_skip (blk_n (tn (wrl ?_)))
 refine wv (.int .i64 z679) z z z (wv (.int .i64 (i64.wrap (z679 + (1:Int)))) z z z (wv (.int .i64 (i64.wrap (z679 + (1:Int)))) z z z (wl_nil (tn ?_))))
 replace hst := hst.pull1.pull1.keep2
 obtain rfl := some_inj hm
 exact ⟨_, Nat.lt_succ_self _, (i64.wrap (z679 + (1:Int))), _, hx686, (fu 2 (Pt b632 0) z (fu 3 (Pt b637 0) z (fu 5 (.int .i64 (i64.wrap (z679 + (1:Int)))) z z))), hst⟩
}
}
}
 {
 replace hm := bif_f hc688 hm
 refine wp_iff (cvb hc688) ?_
 refine wp_exit (then_x (then_x ?_))
 replace hm := inr_up hm hx686
 refine blk_x (tn ?_)
 replace hst := hst.pull1.keep2
 obtain rfl := some_inj hm
 exact ⟨_, hx709, (fu 2 (Pt b632 0) z (fu 3 (Pt b637 0) z z)), hst⟩
}
}
 {
 clear hst
 rintro _ w710 ⟨σ706, hm, rfl, hst⟩
 dsimp only [ref11_Meet_j0] at hm
 refine wp_seq (wp_seq (wrl (wv (.int .i64 (0:Int)) z z z (wl_nil (tn (wp_block ?_))))))
 obtain ⟨n738, hm⟩ := loopO_some hm
 refine wp_loop_n (fun n a w => ∃ (z736 : Int) (σ737 : Nat → Value), loopN (ref11_Meet_l2 a1 a0) n z736 = some r ∧ a = Fr 45 (upd (upd (upd σ737 2 (Pt b632 0)) 3 (Pt b637 0)) 6 (.int .i64 z736)) ∧ St w0 w I [cells b632 [U6 a0.ID.Session, U6 a0.ID.Seq, U6 a0.Epoch, r0_0, r0_1, r0_2, r0_3], cells b637 [U6 a1.ID.Session, U6 a1.ID.Seq, U6 a1.Epoch, r1_0, r1_1, r1_2, r1_3]] R) n738 ⟨(0:Int), _, hm, (fu 2 (Pt b632 0) z (fu 3 (Pt b637 0) z (fu 6 (.int .i64 (0:Int)) z z))), hst⟩ ?_
 rintro n744 _ w739 ⟨z736, σ737, hm, rfl, hst⟩
 obtain ⟨n741, y742, rfl, hm, hx743⟩ := loopN_some hm
 dsimp only [ref11_Meet_l2] at hm
 refine wp_seq (wp_seq (wrl (wv (.int .i64 z736) z z z (wv (Pt b637 5) z z (x_field z underlying46 z sizeOf43 z) (wv (r1_2) z z (x_load z isAgg43 (hst.bc1 z)) (wv (.int .i64 ((a1.Puts).length : Int)) z z (x_len z underlying43 (rd_sliceV f1_2)) (wv (.bool (decide (z736 < ((a1.Puts).length : Int)))) z z z (wl_nil (tn ?_)))))))))
 refine bsplit (decide (z736 < ((a1.Puts).length : Int))) (fun hc745 => ?_) (fun hc745 => ?_)
 {
 replace hm := bif_t hc745 hm
 refine wp_ift (cvb hc745) ?_
 refine wp_skip (tn (wp_seq (wp_block (wp_seq ?_))))
 refine wp_region_St hst 7 [0, 1, 2, 3, 4, 5, 6] [0, 0, 2, 0, 14, 30, 63] [] z (by kernel_rfl) (by kernel_rfl) Tryz.mixed (by kernel_rfl) ?_
 refine wsr (.agg #[U6 a0.ID.Session, U6 a0.ID.Seq, U6 a0.Epoch, r0_0, r0_1, r0_2, r0_3]) 0 z z z (by kernel_rfl) (fun w hst => x_loadN (cs := [U6 a0.ID.Session, U6 a0.ID.Seq, U6 a0.Epoch, r0_0, r0_1, r0_2, r0_3]) z isAgg46 sizeOf46 (hst.bcs0 0 z)) (wsr (Pt b637 5) 1 z z z (by kernel_rfl) (fun w hst => x_field z underlying46 z sizeOf43 z) (wsr (r1_2) 2 z z z (by kernel_rfl) (fun w hst => x_load z isAgg43 (hst.bc1 z)) (wsr (.int .i64 z736) 3 z z z (by kernel_rfl) (fun w hst => z) ?_)))
 obtain ⟨x746, hx747, hm⟩ := bind_some hm
 obtain ⟨h748, h749, hi750⟩ := geto_some hx747
 refine wsr (.pointer (some (eAddr r1_2 (z736.toNat * 1 + 0)))) 4 z z z (by kernel_rfl) (fun w hst => x_index z z underlying43 sizeOf37 (rd_sliceV f1_2) h748 h749) (wsr (.float .f64 x746) 5 z z z (by kernel_rfl) (fun w hst => x_load z isAgg37 (rd_load f1_2 (HL.le.refl _) hst hi750 (by rintro _ rfl; rfl))) ?_)
 refine ws_e1 6 (by kernel_rfl) ?_
 refine nxe [] (by kernel_rfl) z z ?_
 clear hst
 intro w hst
 obtain ⟨t751, ht752, hm⟩ := bind_some hm
 refine wec call221 [.agg #[U6 a0.ID.Session, U6 a0.ID.Seq, U6 a0.Epoch, r0_0, r0_1, r0_2, r0_3], F6 x746] z z ?_
 refine (ref11_reads_ref (f0_0.mono (rd_weak _)) (f0_1.mono (rd_weak _)) (f0_2.mono (rd_weak _)) (f0_3.mono (rd_weak _)) hst.to0 ht752).mono ?_
 rintro _ w753 ⟨rfl, hst⟩
 refine ⟨_, z, ?_⟩
 replace hst := hst.of0
 refine ws_next (pend' := []) hst (by kernel_rfl) pk_nil ?_
 refine ws_nil ?_
 intro w hst
 refine tn ?_
 refine bsplit t751 (fun hc756 => ?_) (fun hc756 => ?_)
 {
 replace hm := bif_t hc756 hm
 refine wp_ift (cvb hc756) ?_
 refine wp_seq (wrl (wv (.bool true) z z z (wl_nil (tn (wp_ret (blk_r (then_r (then_r ?_))))))))
 replace hm := inr_up hm hx743
 refine blk_r (then_r ?_)
 obtain rfl := some_inj hm
 refine post_ret (vs := [.bool true]) results202 (rvs_cons (rv_tmp z) rvs_nil) ?_
 exact ⟨z, hst.keep0⟩
}
 {
 replace hm := bif_f hc756 hm
 refine wp_iff (cvb hc756) ?_
 refine wp_skip (blk_n (tn (wrl ?_)))
 refine wv (.int .i64 z736) z z z (wv (.int .i64 (i64.wrap (z736 + (1:Int)))) z z z (wv (.int .i64 (i64.wrap (z736 + (1:Int)))) z z z (wl_nil (tn ?_))))
 replace hst := hst.pull1.pull1.keep2
 obtain rfl := some_inj hm
 exact ⟨_, Nat.lt_succ_self _, (i64.wrap (z736 + (1:Int))), _, hx743, (fu 2 (Pt b632 0) z (fu 3 (Pt b637 0) z (fu 6 (.int .i64 (i64.wrap (z736 + (1:Int)))) z z))), hst⟩
}
}
 {
 replace hm := bif_f hc745 hm
 refine wp_iff (cvb hc745) ?_
 refine wp_exit (then_x (then_x ?_))
 replace hm := inr_up hm hx743
 refine blk_x (tn (wp_seq (wrl ?_)))
 refine wv (.bool false) z z z (wl_nil (tn (wp_ret ?_)))
 obtain rfl := some_inj hm
 refine post_ret (vs := [.bool false]) results202 (rvs_cons (rv_tmp z) rvs_nil) ?_
 exact ⟨z, hst.keep0⟩
}
}
}

theorem ref11_Drop_ref {w0 w : World} {I : HL} {R : SP} {a0 : (List api_Hold)} {r0_0 : Value} {a1 : api_ID} (f0_0 : Ro ty_api_Hold I r0_0 a0) (hst : St w0 w I [] R) {r : ((List api_Hold))} (hm : ref11_Drop a0 a1 = some r) :
  Calls prog 71 #[r0_0, .agg #[U6 a1.Session, U6 a1.Seq]] w fun e w' => ∃ (q0_0 : Value), e = .returned (q0_0) ∧ St w0 w' I [ownS ty_api_Hold q0_0 r] R := by {
 unfold ref11_Drop at hm
 refine calls_start (args := [r0_0, .agg #[U6 a1.Session, U6 a1.Seq]]) func71 z ntmps71 (Nat.le_of_ble_eq_true z) ?_
 refine wp_seq (wrl ?_)
 obtain ⟨b758, w759, ew760, eb761, hst⟩ := hst.box [U6 a1.Session, U6 a1.Seq] 28
 refine wl_run (v := Pt b758 0) (w' := w759) z z (x_al (by kernel_rfl) ew760 eb761) ?_
 refine wv ((.slice none 0 0)) z z z (wl_nil (tn (wp_seq (wrl (wv ((.slice none 0 0)) z z z (wl_nil (tn (wp_seq (wp_seq (wrl (wv (.int .i64 (0:Int)) z z z (wl_nil (tn (wp_block ?_))))))))))))))
 replace hst := hst.own_nil ty_api_Hold
 obtain ⟨n882, hm⟩ := loopO_some hm
 refine wp_loop_n (fun n a w => ∃ (z877 : (List api_Hold)) (z880 : Int) (v878 : Value) (σ881 : Nat → Value), loopN (ref11_Drop_l0 a0 a1) n (z877, z880) = some r ∧ a = Fr 28 (upd (upd (upd (upd σ881 0 (r0_0)) 3 (Pt b758 0)) 5 (v878)) 6 (.int .i64 z880)) ∧ St w0 w I [ownS ty_api_Hold v878 z877, cells b758 [U6 a1.Session, U6 a1.Seq]] R) n882 ⟨[], (0:Int), Zs, _, hm, (fu 0 r0_0 z (fu 3 (Pt b758 0) z (fu 5 (.slice none 0 0) z (fu 6 (.int .i64 (0:Int)) z z)))), hst⟩ ?_
 rintro n888 _ w883 ⟨z877, z880, v878, σ881, hm, rfl, hst⟩
 obtain ⟨n885, y886, rfl, hm, hx887⟩ := loopN_some hm
 dsimp only [ref11_Drop_l0] at hm
 refine wp_seq (wp_seq (wrl (wv (.int .i64 z880) z z z (wv (r0_0) z z z (wv (.int .i64 ((a0).length : Int)) z z (x_len z underlying125 (ro_sliceV f0_0)) (wv (.bool (decide (z880 < ((a0).length : Int)))) z z z (wl_nil (tn ?_))))))))
 refine bsplit (decide (z880 < ((a0).length : Int))) (fun hc889 => ?_) (fun hc889 => ?_)
 {
 replace hm := bif_t hc889 hm
 refine wp_ift (cvb hc889) ?_
 refine wp_skip (tn (wp_seq (wp_block (wp_seq ?_))))
 refine wq_regionS hst Tryz.mixed (by kernel_rfl) ?_
 refine wq_run (v := r0_0) z z (fun w hst => z) ?_
 refine wq_run (v := .int .i64 z880) z z (fun w hst => z) ?_
 obtain ⟨x890, hx891, hm⟩ := bind_some hm
 obtain ⟨h892, h893, hi894⟩ := geto_some hx891
 refine wq_run (v := .pointer (some (eAddr r0_0 (z880.toNat * 7 + 0)))) z z (fun w hst => x_index z z underlying125 sizeOf46 (ro_sliceV f0_0) h892 h893) ?_
 refine wq_run (v := .pointer (some (eAddr r0_0 (z880.toNat * 7 + 0)))) z z (fun w hst => x_field_e z underlying46 z sizeOf28 z) ?_
 obtain ⟨cs895, hr896, hc897⟩ := Ro.getF f0_0 hi894
 obtain ⟨v898, v901, v904, v907, rfl, f899, f902, f905, f908, -⟩ := hr896
 refine wq_run (v := .agg #[U6 x890.ID.Session, U6 x890.ID.Seq]) z z (fun w hst => x_loadN (cs := [U6 x890.ID.Session, U6 x890.ID.Seq]) z isAgg28 sizeOf28 (eCells (o := 0) (hc897 (HL.le.refl _) hst) z)) ?_
 refine wq_run (v := .agg #[U6 a1.Session, U6 a1.Seq]) z z (fun w hst => x_loadN (cs := [U6 a1.Session, U6 a1.Seq]) z isAgg28 sizeOf28 (hst.bcs1 0 z)) ?_
 refine wq_run (v := .bool (!((x890.ID.Session == a1.Session) && (x890.ID.Seq == a1.Seq)))) z z (fun w hst => x_aggne2 z z (by kernel_rfl) underlying28 (by kernel_rfl) (by kernel_rfl) (by kernel_rfl) underlying26 underlying26 (fun _ _ _ => by kernel_rfl) (fun _ _ _ => by kernel_rfl)) ?_
 refine wq_nil ?_
 intro w hst
 refine tn ?_
 refine bsplit (!((x890.ID.Session == a1.Session) && (x890.ID.Seq == a1.Seq))) (fun hc910 => ?_) (fun hc910 => ?_)
 {
 replace hm := bif_t hc910 hm
 refine wp_ift (cvb hc910) ?_
 refine wrl (wv (v878) z z z (wv (r0_0) z z z (wv (.int .i64 z880) z z z (wv (.pointer (some (eAddr r0_0 (z880.toNat * 7 + 0)))) z z (x_index z z underlying125 sizeOf46 (ro_sliceV f0_0) h892 h893) (wv (.agg #[U6 x890.ID.Session, U6 x890.ID.Seq, U6 x890.Epoch, v898, v901, v904, v907]) z z (x_loadN (cs := [U6 x890.ID.Session, U6 x890.ID.Seq, U6 x890.Epoch, v898, v901, v904, v907]) z isAgg46 sizeOf46 (eCells (o := 0) (hc897 (HL.le.refl _) hst) z)) ?_)))))
 obtain ⟨b915, w916, ew917, eb918, hst⟩ := hst.lits (E := ty_api_Hold) (xs := [x890]) [[U6 x890.ID.Session, U6 x890.ID.Seq, U6 x890.Epoch, v898, v901, v904, v907]] 46 1 z (Reps.cons ⟨_, _, _, _, z, f899, f902, f905, f908, one_of_sliceV (ro_sliceV f899), one_of_sliceV (ro_sliceV f902), one_of_sliceV (ro_sliceV f905), one_of_sliceV (ro_sliceV f908)⟩ Reps.nil)
 refine wl_run (v := (.slice (some ⟨b915, 0, none⟩) 1 1)) (w' := w916) z z (x_als (by kernel_rfl) ew917 eb918) ?_
 obtain ⟨hg920, hm⟩ := gd_some hm
 replace hst := hst.pull1
 obtain ⟨v921, w922, hr923, hst⟩ := run_append elem_125 underlying125 hst hst.src1 (room_of hg920 z) 125
 refine wl_run (v := v921) (w' := w922) z z (x_append z z hr923) ?_
 refine wv (v921) z z z (wl_nil (blk_n (tn (wrl (wv (.int .i64 z880) z z z (wv (.int .i64 (i64.wrap (z880 + (1:Int)))) z z z (wv (.int .i64 (i64.wrap (z880 + (1:Int)))) z z z (wl_nil (tn ?_)))))))))
 replace hst := hst.pull2.pull1.keep2
 obtain rfl := some_inj hm
 exact ⟨_, Nat.lt_succ_self _, (z877 ++ ([x890])), (i64.wrap (z880 + (1:Int))), v921, _, hx887, (fu 0 r0_0 z (fu 3 (Pt b758 0) z (fu 5 v921 z (fu 6 (.int .i64 (i64.wrap (z880 + (1:Int)))) z z)))), hst⟩
}
 {
 replace hm := bif_f hc910 hm
 refine wp_iff (cvb hc910) ?_
 refine wp_skip (blk_n (tn (wrl ?_)))
 refine wv (.int .i64 z880) z z z (wv (.int .i64 (i64.wrap (z880 + (1:Int)))) z z z (wv (.int .i64 (i64.wrap (z880 + (1:Int)))) z z z (wl_nil (tn ?_))))
 replace hst := hst.pull1.pull1.keep2
 obtain rfl := some_inj hm
 exact ⟨_, Nat.lt_succ_self _, z877, (i64.wrap (z880 + (1:Int))), v878, _, hx887, (fu 0 r0_0 z (fu 3 (Pt b758 0) z (fu 5 v878 z (fu 6 (.int .i64 (i64.wrap (z880 + (1:Int)))) z z)))), hst⟩
}
}
 {
 replace hm := bif_f hc889 hm
 refine wp_iff (cvb hc889) ?_
 refine wp_exit (then_x (then_x ?_))
 replace hm := inr_up hm hx887
 refine blk_x (tn (wp_seq (wrl ?_)))
 refine wv (v878) z z z (wv (v878) z z z (wl_nil (tn (wp_ret ?_))))
 obtain rfl := some_inj hm
 refine post_ret (vs := [v878]) results71 (rvs_cons (rv_tmp z) rvs_nil) ?_
 exact ⟨v878, z, hst.keep1⟩
}
}

theorem ref11_Take_ref {w0 w : World} {I : HL} {R : SP} {a0 : (List api_Hold)} {r0_0 : Value} {a1 : api_Hold} {r1_0 : Value} {r1_1 : Value} {r1_2 : Value} {r1_3 : Value} (f0_0 : Ro ty_api_Hold I r0_0 a0) (f1_0 : Ro tyF64 I r1_0 a1.Gets) (f1_1 : Ro tyF2 I r1_1 a1.Scans) (f1_2 : Ro tyF64 I r1_2 a1.Puts) (f1_3 : Ro (tyInt .u8) I r1_3 a1.Data) (hst : St w0 w I [] R) {r : ((List api_Hold) × Bool)} (hm : ref11_Take a0 a1 = some r) :
  Calls prog 150 #[r0_0, .agg #[U6 a1.ID.Session, U6 a1.ID.Seq, U6 a1.Epoch, r1_0, r1_1, r1_2, r1_3]] w fun e w' => ∃ (I' : HL) (q0_0 : Value), e = .returned (.tuple #[q0_0, .bool r.2]) ∧ I.le I' ∧ Ro ty_api_Hold I' q0_0 r.1 ∧ St w0 w' I' [] R := by {
 unfold ref11_Take at hm
 refine calls_start (args := [r0_0, .agg #[U6 a1.ID.Session, U6 a1.ID.Seq, U6 a1.Epoch, r1_0, r1_1, r1_2, r1_3]]) func150 z ntmps150 (Nat.le_of_ble_eq_true z) ?_
 have hI0 := HL.le.refl I
 refine wp_seq (wrl ?_)
 obtain ⟨b642, w643, ew644, eb645, hst⟩ := hst.box [U6 a1.ID.Session, U6 a1.ID.Seq, U6 a1.Epoch, r1_0, r1_1, r1_2, r1_3] 46
 refine wl_run (v := Pt b642 0) (w' := w643) z z (x_al (by kernel_rfl) ew644 eb645) ?_
 refine wv ((.slice none 0 0)) z z z (wv (.bool false) z z z (wl_nil (tn ?_)))
 obtain ⟨y744, hm, hx745⟩ := joinO_some hm
 refine wp_cut (fun a w => ∃ (σ742 : Nat → Value), (ref11_Take_j0 a0 a1) () = some r ∧ a = Fr 37 (upd (upd σ742 0 (r0_0)) 3 (Pt b642 0)) ∧ St w0 w I [cells b642 [U6 a1.ID.Session, U6 a1.ID.Seq, U6 a1.Epoch, r1_0, r1_1, r1_2, r1_3]] R) ?_ ?_
 {
 refine wp_seq (wrl (wv (.int .i64 (0:Int)) z z z (wl_nil (tn (wp_block ?_)))))
 obtain ⟨n707, hm⟩ := loopO_some hm
 refine wp_loop_n (fun n a w => ∃ (z705 : Int) (σ706 : Nat → Value), loopN (ref11_Take_l1 a0 a1) n z705 = some y744 ∧ a = Fr 37 (upd (upd (upd σ706 0 (r0_0)) 3 (Pt b642 0)) 6 (.int .i64 z705)) ∧ St w0 w I [cells b642 [U6 a1.ID.Session, U6 a1.ID.Seq, U6 a1.Epoch, r1_0, r1_1, r1_2, r1_3]] R) n707 ⟨(0:Int), _, hm, (fu 0 r0_0 z (fu 3 (Pt b642 0) z (fu 6 (.int .i64 (0:Int)) z z))), hst⟩ ?_
 rintro n713 _ w708 ⟨z705, σ706, hm, rfl, hst⟩
 obtain ⟨n710, y711, rfl, hm, hx712⟩ := loopN_some hm
 dsimp only [ref11_Take_l1] at hm
 refine wp_seq (wp_seq (wrl (wv (.int .i64 z705) z z z (wv (r0_0) z z z (wv (.int .i64 ((a0).length : Int)) z z (x_len z underlying125 (ro_sliceV f0_0)) (wv (.bool (decide (z705 < ((a0).length : Int)))) z z z (wl_nil (tn ?_))))))))
 refine bsplit (decide (z705 < ((a0).length : Int))) (fun hc714 => ?_) (fun hc714 => ?_)
 {
 replace hm := bif_t hc714 hm
 refine wp_ift (cvb hc714) ?_
 refine wp_skip (tn (wp_seq (wp_block (wp_seq ?_))))
 refine wp_region_St hst 16 [0, 1, 2, 3, 4, 5, 6, 7, 8, 9, 10, 11, 12, 13, 14, 15] [0, 0, 3, 7, 15, 0, 32, 127, 255, 511, 511, 2047, 4095, 511, 16383, 32767] [] z (by kernel_rfl) (by kernel_rfl) Tryz.mixed (by kernel_rfl) ?_
 refine wsr (r0_0) 0 z z z (by kernel_rfl) (fun w hst => z) (wsr (.int .i64 z705) 1 z z z (by kernel_rfl) (fun w hst => z) ?_)
 obtain ⟨x715, hx716, hm⟩ := bind_some hm
 obtain ⟨h717, h718, hi719⟩ := geto_some hx716
 refine wsr (.pointer (some (eAddr r0_0 (z705.toNat * 7 + 0)))) 2 z z z (by kernel_rfl) (fun w hst => x_index z z underlying125 sizeOf46 (ro_sliceV f0_0) h717 h718) (wsr (.pointer (some (eAddr r0_0 (z705.toNat * 7 + 0)))) 3 z z z (by kernel_rfl) (fun w hst => x_field_e z underlying46 z sizeOf28 z) ?_)
 obtain ⟨cs720, hr721, hc722⟩ := Ro.getF f0_0 hi719
 obtain ⟨v723, v726, v729, v732, rfl, f724, f727, f730, f733, -⟩ := hr721
 refine wsr (.agg #[U6 x715.ID.Session, U6 x715.ID.Seq]) 4 z z z (by kernel_rfl) (fun w hst => x_loadN (cs := [U6 x715.ID.Session, U6 x715.ID.Seq]) z isAgg28 sizeOf28 (eCells (o := 0) (hc722 (HL.le.refl _) hst) z)) (wsr (Pt b642 0) 5 z z z (by kernel_rfl) (fun w hst => x_field z underlying46 z sizeOf28 z) (wsr (.agg #[U6 a1.ID.Session, U6 a1.ID.Seq]) 6 z z z (by kernel_rfl) (fun w hst => x_loadN (cs := [U6 a1.ID.Session, U6 a1.ID.Seq]) z isAgg28 sizeOf28 (hst.bcs0 0 z)) (wsr (.bool (!((x715.ID.Session == a1.ID.Session) && (x715.ID.Seq == a1.ID.Seq)))) 7 z z z (by kernel_rfl) (fun w hst => x_aggne2 z z (by kernel_rfl) underlying28 (by kernel_rfl) (by kernel_rfl) (by kernel_rfl) underlying26 underlying26 (fun _ _ _ => by kernel_rfl) (fun _ _ _ => by kernel_rfl)) (wsr (.bool (!((x715.ID.Session == a1.ID.Session) && (x715.ID.Seq == a1.ID.Seq)))) 8 z z z (by kernel_rfl) (fun w hst => z) ?_))))
 refine bsplit (!((x715.ID.Session == a1.ID.Session) && (x715.ID.Seq == a1.ID.Seq))) (fun hc735 => ?_) (fun hc735 => ?_)
 {
 replace hm := bif_t hc735 hm
 refine ws_q (v := r0_0) 9 [10, 11, 12, 13, 14, 15] (by kernel_rfl) z z (yi_run ((wanted_eq z z z (cvb hc735)).trans z) (fun w hst => z)) (ws_q (v := .int .i64 z705) 10 [11, 12, 13, 14, 15] (by kernel_rfl) z z (yi_run ((wanted_eq z z z (cvb hc735)).trans z) (fun w hst => z)) (ws_q (v := .pointer (some (eAddr r0_0 (z705.toNat * 7 + 0)))) 11 [12, 13, 14, 15] (by kernel_rfl) z z (yi_run ((wanted_eq z z z (cvb hc735)).trans z) (fun w hst => x_index z z underlying125 sizeOf46 (ro_sliceV f0_0) h717 h718)) (ws_q (v := .agg #[U6 x715.ID.Session, U6 x715.ID.Seq, U6 x715.Epoch, v723, v726, v729, v732]) 12 [13, 14, 15] (by kernel_rfl) z z (yi_run ((wanted_eq z z z (cvb hc735)).trans z) (fun w hst => x_loadN (cs := [U6 x715.ID.Session, U6 x715.ID.Seq, U6 x715.Epoch, v723, v726, v729, v732]) z isAgg46 sizeOf46 (eCells (o := 0) (hc722 (HL.le.refl _) hst) z))) (ws_q (v := .agg #[U6 a1.ID.Session, U6 a1.ID.Seq, U6 a1.Epoch, r1_0, r1_1, r1_2, r1_3]) 13 [14, 15] (by kernel_rfl) z z (yi_run ((wanted_eq z z z (cvb hc735)).trans z) (fun w hst => x_loadN (cs := [U6 a1.ID.Session, U6 a1.ID.Seq, U6 a1.Epoch, r1_0, r1_1, r1_2, r1_3]) z isAgg46 sizeOf46 (hst.bcs0 0 z))) ?_))))
 refine ws_e1 14 (by kernel_rfl) ?_
 refine nxe [15] (by kernel_rfl) z ((wanted_eq z z z (cvb hc735)).trans z) ?_
 clear hst
 intro w hst
 obtain ⟨t736, ht737, hm⟩ := bind_some hm
 refine wec call202 [.agg #[U6 x715.ID.Session, U6 x715.ID.Seq, U6 x715.Epoch, v723, v726, v729, v732], .agg #[U6 a1.ID.Session, U6 a1.ID.Seq, U6 a1.Epoch, r1_0, r1_1, r1_2, r1_3]] z z ?_
 refine (ref11_Meet_ref (f724.mono ro_rd) (f727.mono ro_rd) (f730.mono ro_rd) (f733.mono ro_rd) (f1_0.mono ro_rd) (f1_1.mono ro_rd) (f1_2.mono ro_rd) (f1_3.mono ro_rd) hst.to0 ht737).mono ?_
 rintro _ w738 ⟨rfl, hst⟩
 refine ⟨_, z, ?_⟩
 replace hst := hst.of0
 refine ws_next (pend' := []) hst (by kernel_rfl) pk_nil ?_
 refine wsr (.bool t736) 15 z z z (by kernel_rfl) (fun w hst => x_pick_t hc735 z z) ?_
 refine ws_nil ?_
 intro w hst
 refine tn ?_
 refine bsplit t736 (fun hc741 => ?_) (fun hc741 => ?_)
 {
 replace hm := bif_t hc741 hm
 refine wp_ift (cvb hc741) ?_
 refine wp_seq (wrl (wv (r0_0) z z z (wv (r0_0) z z z (wv (.bool false) z z z (wl_nil (tn (wp_ret (blk_r (then_r (then_r ?_))))))))))
 replace hm := inr_up hm hx712
 refine blk_r (then_r ?_)
 replace hm := inr_up hm hx745
 obtain rfl := some_inj hm
 refine post_ret (vs := [r0_0, .bool false]) results150 (rvs_cons (rv_tmp z) (rvs_cons (rv_tmp z) rvs_nil)) ?_
 exact ⟨_, r0_0, z, hI0, f0_0, hst.keep0⟩
}
 {
 replace hm := bif_f hc741 hm
 refine wp_iff (cvb hc741) ?_
 refine wp_skip (blk_n (tn (wrl ?_)))
 refine wv (.int .i64 z705) z z z (wv (.int .i64 (i64.wrap (z705 + (1:Int)))) z z z (wv (.int .i64 (i64.wrap (z705 + (1:Int)))) z z z (wl_nil (tn ?_))))
 replace hst := hst.keep1
 obtain rfl := some_inj hm
 exact ⟨_, Nat.lt_succ_self _, (i64.wrap (z705 + (1:Int))), _, hx712, (fu 0 r0_0 z (fu 3 (Pt b642 0) z (fu 6 (.int .i64 (i64.wrap (z705 + (1:Int)))) z z))), hst⟩
}
}
 {
 replace hm := bif_f hc735 hm
 refine ws_q (v := undef) 9 [10, 11, 12, 13, 14, 15] (by kernel_rfl) z z (yi_off ((wanted_eq z z z (cvb hc735)).trans z)) (ws_q (v := undef) 10 [11, 12, 13, 14, 15] (by kernel_rfl) z z (yi_off ((wanted_eq z z z (cvb hc735)).trans z)) (ws_q (v := undef) 11 [12, 13, 14, 15] (by kernel_rfl) z z (yi_off ((wanted_eq z z z (cvb hc735)).trans z)) (ws_q (v := undef) 12 [13, 14, 15] (by kernel_rfl) z z (yi_off ((wanted_eq z z z (cvb hc735)).trans z)) (ws_q (v := undef) 13 [14, 15] (by kernel_rfl) z z (yi_off ((wanted_eq z z z (cvb hc735)).trans z)) (ws_q (v := undef) 14 [15] (by kernel_rfl) z z (yi_off ((wanted_eq z z z (cvb hc735)).trans z)) (wsr (.bool false) 15 z z z (by kernel_rfl) (fun w hst => x_pick_f hc735 z z) ?_))))))
 refine ws_nil ?_
 intro w hst
 refine tn ?_
 refine wp_iff z ?_
 refine wp_skip (blk_n (tn (wrl ?_)))
 refine wv (.int .i64 z705) z z z (wv (.int .i64 (i64.wrap (z705 + (1:Int)))) z z z (wv (.int .i64 (i64.wrap (z705 + (1:Int)))) z z z (wl_nil (tn ?_))))
 replace hst := hst.keep1
 obtain rfl := some_inj hm
 exact ⟨_, Nat.lt_succ_self _, (i64.wrap (z705 + (1:Int))), _, hx712, (fu 0 r0_0 z (fu 3 (Pt b642 0) z (fu 6 (.int .i64 (i64.wrap (z705 + (1:Int)))) z z))), hst⟩
}
}
 {
 replace hm := bif_f hc714 hm
 refine wp_iff (cvb hc714) ?_
 refine wp_exit (then_x (then_x ?_))
 replace hm := inr_up hm hx712
 refine blk_x (tn ?_)
 replace hst := hst.keep1
 obtain rfl := some_inj hm
 exact ⟨_, hx745, (fu 0 r0_0 z (fu 3 (Pt b642 0) z z)), hst⟩
}
}
 {
 clear hst
 rintro _ w746 ⟨σ742, hm, rfl, hst⟩
 dsimp only [ref11_Take_j0] at hm
 refine wp_seq ?_
 obtain ⟨y792, hm, hx793⟩ := bind_some hm
 refine wp_mid (fun a w => ∃ (z789 : (List api_Hold)) (v788 : Value) (σ790 : Nat → Value), (ref11_Take_j2) z789 = some r ∧ a = Fr 37 (upd (upd σ790 4 (v788)) 5 (.bool true)) ∧ St w0 w I [ownS ty_api_Hold v788 z789] R) ?_ ?_
 {
 refine wp_region_St hst 9 [0, 1, 2, 3, 4, 5, 6, 7, 8] [0, 0, 2, 7, 0, 16, 63, 127, 255] [] z (by kernel_rfl) (by kernel_rfl) Tryz.mixed (by kernel_rfl) ?_
 refine wsr (r0_0) 0 z z z (by kernel_rfl) (fun w hst => z) (wsr (Pt b642 0) 1 z z z (by kernel_rfl) (fun w hst => x_field z underlying46 z sizeOf28 z) (wsr (.agg #[U6 a1.ID.Session, U6 a1.ID.Seq]) 2 z z z (by kernel_rfl) (fun w hst => x_loadN (cs := [U6 a1.ID.Session, U6 a1.ID.Seq]) z isAgg28 sizeOf28 (hst.bcs0 0 z)) (wsr (.agg #[U6 a1.ID.Session, U6 a1.ID.Seq, U6 a1.Epoch, r1_0, r1_1, r1_2, r1_3]) 4 z z z (by kernel_rfl) (fun w hst => x_loadN (cs := [U6 a1.ID.Session, U6 a1.ID.Seq, U6 a1.Epoch, r1_0, r1_1, r1_2, r1_3]) z isAgg46 sizeOf46 (hst.bcs0 0 z)) ?_)))
 obtain ⟨t747, ht748, hm⟩ := bind_some hm
 refine ws_e2 3 5 (by kernel_rfl) ?_ ?_
 {
 refine nxe [5, 6, 7, 8] (by kernel_rfl) z z ?_
 clear hst
 intro w hst
 refine wec call71 [r0_0, .agg #[U6 a1.ID.Session, U6 a1.ID.Seq]] z z ?_
 refine (ref11_Drop_ref f0_0 hst.to0 ht748).mono ?_
 rintro _ w749 ⟨v752, rfl, hst⟩
 refine ⟨_, z, ?_⟩
 replace hst := hst.of1
 refine ws_next (pend' := [(4, .agg #[U6 a1.ID.Session, U6 a1.ID.Seq, U6 a1.Epoch, r1_0, r1_1, r1_2, r1_3])]) hst (by kernel_rfl) (pkr z z (fun w hst => x_loadN (cs := [U6 a1.ID.Session, U6 a1.ID.Seq, U6 a1.Epoch, r1_0, r1_1, r1_2, r1_3]) z isAgg46 sizeOf46 (hst.bcs1 0 z)) pk_nil) ?_
 refine ws_e1 5 (by kernel_rfl) ?_
 refine nxe [6, 7, 8] (by kernel_rfl) z z ?_
 clear hst
 intro w hst
 obtain ⟨b758, w759, ew760, eb761, hst⟩ := hst.lits (E := ty_api_Hold) (xs := [a1]) [[U6 a1.ID.Session, U6 a1.ID.Seq, U6 a1.Epoch, r1_0, r1_1, r1_2, r1_3]] 46 1 z (Reps.cons ⟨_, _, _, _, z, f1_0, f1_1, f1_2, f1_3, one_of_sliceV (ro_sliceV f1_0), one_of_sliceV (ro_sliceV f1_1), one_of_sliceV (ro_sliceV f1_2), one_of_sliceV (ro_sliceV f1_3)⟩ Reps.nil)
 refine we_run (v := (.slice (some ⟨b758, 0, none⟩) 1 1)) (w' := w759) z (x_als (by kernel_rfl) ew760 eb761) ?_
 refine ws_next (pend' := []) hst (by kernel_rfl) pk_nil ?_
 refine ws_e1 6 (by kernel_rfl) ?_
 refine nxe [7, 8] (by kernel_rfl) z z ?_
 clear hst
 intro w hst
 obtain ⟨hg763, hm⟩ := gd_some hm
 replace hst := hst.pull1
 obtain ⟨v764, w765, hr766, hst⟩ := run_append elem_125 underlying125 hst hst.src1 (room_of hg763 z) 125
 refine we_run (v := v764) (w' := w765) z (x_append z z hr766) ?_
 refine ws_next (pend' := []) hst (by kernel_rfl) pk_nil ?_
 refine wsr (v764) 7 z z z (by kernel_rfl) (fun w hst => z) (wsr (.bool true) 8 z z z (by kernel_rfl) (fun w hst => z) ?_)
 refine ws_nil ?_
 intro w hst
 refine ⟨z, ?_⟩
 replace hst := hst.keep1
 obtain rfl := some_inj hm
 exact ⟨(t747 ++ ([a1])), v764, _, hx793, (fu 4 v764 z (fu 5 (.bool true) z z)), hst⟩
}
 {
 refine nxe [3, 6, 7, 8] (by kernel_rfl) z z ?_
 clear hst
 intro w hst
 obtain ⟨b772, w773, ew774, eb775, hst⟩ := hst.lits (E := ty_api_Hold) (xs := [a1]) [[U6 a1.ID.Session, U6 a1.ID.Seq, U6 a1.Epoch, r1_0, r1_1, r1_2, r1_3]] 46 1 z (Reps.cons ⟨_, _, _, _, z, f1_0, f1_1, f1_2, f1_3, one_of_sliceV (ro_sliceV f1_0), one_of_sliceV (ro_sliceV f1_1), one_of_sliceV (ro_sliceV f1_2), one_of_sliceV (ro_sliceV f1_3)⟩ Reps.nil)
 refine we_run (v := (.slice (some ⟨b772, 0, none⟩) 1 1)) (w' := w773) z (x_als (by kernel_rfl) ew774 eb775) ?_
 refine ws_next (pend' := [(2, .agg #[U6 a1.ID.Session, U6 a1.ID.Seq]), (1, Pt b642 0), (0, r0_0)]) hst (by kernel_rfl) (pkr z z (fun w hst => x_loadN (cs := [U6 a1.ID.Session, U6 a1.ID.Seq]) z isAgg28 sizeOf28 (hst.bcs1 0 z)) (pkr z z (fun w hst => x_field z underlying46 z sizeOf28 z) (pkr z z (fun w hst => z) pk_nil))) ?_
 refine ws_e1 3 (by kernel_rfl) ?_
 refine nxe [6, 7, 8] (by kernel_rfl) z z ?_
 clear hst
 intro w hst
 refine wec call71 [r0_0, .agg #[U6 a1.ID.Session, U6 a1.ID.Seq]] z z ?_
 refine (ref11_Drop_ref f0_0 hst.to0 ht748).mono ?_
 rintro _ w777 ⟨v780, rfl, hst⟩
 refine ⟨_, z, ?_⟩
 replace hst := hst.of1
 refine ws_next (pend' := []) hst (by kernel_rfl) pk_nil ?_
 refine ws_e1 6 (by kernel_rfl) ?_
 refine nxe [7, 8] (by kernel_rfl) z z ?_
 clear hst
 intro w hst
 obtain ⟨hg782, hm⟩ := gd_some hm
 obtain ⟨v783, w784, hr785, hst⟩ := run_append elem_125 underlying125 hst hst.src1 (room_of hg782 z) 125
 refine we_run (v := v783) (w' := w784) z (x_append z z hr785) ?_
 refine ws_next (pend' := []) hst (by kernel_rfl) pk_nil ?_
 refine wsr (v783) 7 z z z (by kernel_rfl) (fun w hst => z) (wsr (.bool true) 8 z z z (by kernel_rfl) (fun w hst => z) ?_)
 refine ws_nil ?_
 intro w hst
 refine ⟨z, ?_⟩
 replace hst := hst.keep1
 obtain rfl := some_inj hm
 exact ⟨(t747 ++ ([a1])), v783, _, hx793, (fu 4 v783 z (fu 5 (.bool true) z z)), hst⟩
}
}
 {
 clear hst
 rintro _ w794 ⟨z789, v788, σ790, hm, rfl, hst⟩
 dsimp only [ref11_Take_j2] at hm
 refine tn (wp_ret ?_)
 obtain ⟨I795, hI796, f797, hst⟩ := hst.own_fix
 replace f0_0 := f0_0.mono (ro_le hI796)
 replace f1_0 := f1_0.mono (ro_le hI796)
 replace f1_1 := f1_1.mono (ro_le hI796)
 replace f1_2 := f1_2.mono (ro_le hI796)
 replace f1_3 := f1_3.mono (ro_le hI796)
 replace hI0 := hI0.trans hI796
 obtain rfl := some_inj hm
 refine post_ret (vs := [v788, .bool true]) results150 (rvs_cons (rv_tmp z) (rvs_cons (rv_tmp z) rvs_nil)) ?_
 exact ⟨_, v788, z, hI0, f797, hst.keep0⟩
}
}
}

theorem ref16_State_Hold_ref {w0 w : World} {I : HL} {R : SP} {a0 : ref16_State} {p0 : Value} {a1 : api_Hold} {r1_0 : Value} {r1_1 : Value} {r1_2 : Value} {r1_3 : Value} (f1_0 : Ro tyF64 I r1_0 a1.Gets) (f1_1 : Ro tyF2 I r1_1 a1.Scans) (f1_2 : Ro tyF64 I r1_2 a1.Puts) (f1_3 : Ro (tyInt .u8) I r1_3 a1.Data) (hst : St w0 w I [at_ref16_State p0 a0] R) {r : (Int × ref16_State)} (hm : ref16_State_Hold a0 a1 = some r) :
  Calls prog 69 #[p0, .agg #[U6 a1.ID.Session, U6 a1.ID.Seq, U6 a1.Epoch, r1_0, r1_1, r1_2, r1_3]] w fun e w' => ∃ (I' : HL), e = .returned (.int .i64 r.1) ∧ I.le I' ∧ St w0 w' I' [at_ref16_State p0 r.2] R := by {
 unfold ref16_State_Hold at hm
 refine calls_start (args := [p0, .agg #[U6 a1.ID.Session, U6 a1.ID.Seq, U6 a1.Epoch, r1_0, r1_1, r1_2, r1_3]]) func69 z ntmps69 (Nat.le_of_ble_eq_true z) ?_
 have hI0 := HL.le.refl I
 refine wp_seq (wrl ?_)
 obtain ⟨b515, w516, ew517, eb518, hst⟩ := hst.box [U6 a1.ID.Session, U6 a1.ID.Seq, U6 a1.Epoch, r1_0, r1_1, r1_2, r1_3] 46
 refine wl_run (v := Pt b515 0) (w' := w516) z z (x_al (by kernel_rfl) ew517 eb518) ?_
 refine wv (.int .i64 (0:Int)) z z z (wl_nil (tn (wp_seq ?_)))
 replace hst := hst.pull1
 obtain ⟨b520, v521, v524, v527, v530, v533, v535, v537, ⟨rfl, f523, f526, f529, f532⟩, hst'⟩ := at_ref16_State_open hst
 clear hst
 have hst := hst'
 clear hst'
 obtain ⟨y618, hm, hx619⟩ := bind_some hm
 refine wp_mid (fun a w => ∃ (I615 : HL) (z595 : Int) (z596 : Int) (z597 : Int) (z600 : (List Nat)) (z604 : (List (Nat × Nat))) (z608 : (List Nat)) (z612 : (List Int)) (z614 : Bool) (b594 : Nat) (v599 : Value) (v603 : Value) (v607 : Value) (v611 : Value) (σ616 : Nat → Value), (ref16_State_Hold_j0 a1 a0) (z595, z596, z597, z600, z604, z608, z612, z614) = some r ∧ a = Fr 65 (upd (upd (upd (upd σ616 0 (Pt b520 0)) 3 (Pt b515 0)) 5 (Pt b594 0)) 6 (.bool z614)) ∧ I.le I615 ∧ Ro tyF64 I615 v599 z600 ∧ Ro tyF2 I615 v603 z604 ∧ Ro tyF64 I615 v607 z608 ∧ Ro (tyInt .u8) I615 v611 z612 ∧ St w0 w I615 [at_ref16_State (Pt b520 0) a0, cells b515 [U6 a1.ID.Session, U6 a1.ID.Seq, U6 a1.Epoch, r1_0, r1_1, r1_2, r1_3], cells b594 [U6 z595, U6 z596, U6 z597, v599, v603, v607, v611]] R) ?_ ?_
 {
 have hL620 := HL.le.refl I
 refine wp_region_St hst 13 [0, 1, 2, 3, 4, 5, 6, 7, 8, 9, 10, 11, 12] [0, 1, 3, 7, 0, 16, 63, 127, 255, 255, 0, 1535, 4095] [] z (by kernel_rfl) (by kernel_rfl) Tryz.mixed (by kernel_rfl) ?_
 refine wsr (Pt b520 0) 0 z z z (by kernel_rfl) (fun w hst => z) (wsr (Pt b520 0) 1 z z z (by kernel_rfl) (fun w hst => z) (wsr (Pt b520 3) 2 z z z (by kernel_rfl) (fun w hst => x_field z underlying130 z sizeOf125 z) (wsr (v524) 3 z z z (by kernel_rfl) (fun w hst => x_load z isAgg125 (hst.bc0 z)) (wsr (Pt b515 0) 4 z z z (by kernel_rfl) (fun w hst => x_field z underlying46 z sizeOf28 z) (wsr (.agg #[U6 a1.ID.Session, U6 a1.ID.Seq]) 5 z z z (by kernel_rfl) (fun w hst => x_loadN (cs := [U6 a1.ID.Session, U6 a1.ID.Seq]) z isAgg28 sizeOf28 (hst.bcs4 0 z)) ?_)))))
 obtain ⟨t539, ht540, hm⟩ := bind_some hm
 refine ws_e2 6 10 (by kernel_rfl) ?_ ?_
 {
 refine nxe [7, 8, 9, 10, 11, 12] (by kernel_rfl) z z ?_
 clear hst
 intro w hst
 refine wec call70 [v524, .agg #[U6 a1.ID.Session, U6 a1.ID.Seq]] z z ?_
 refine (ref11_Held_ref f526 hst.to0 ht540).mono ?_
 rintro _ w541 ⟨I542, v544, v547, v550, v553, rfl, hI543, f546, f549, f552, f555, hst⟩
 refine ⟨_, z, ?_⟩
 replace hst := hst.of0
 replace f1_0 := f1_0.mono (ro_le hI543)
 replace f1_1 := f1_1.mono (ro_le hI543)
 replace f1_2 := f1_2.mono (ro_le hI543)
 replace f1_3 := f1_3.mono (ro_le hI543)
 replace f523 := f523.mono (ro_le hI543)
 replace f526 := f526.mono (ro_le hI543)
 replace f529 := f529.mono (ro_le hI543)
 replace f532 := f532.mono (ro_le hI543)
 replace hI0 := hI0.trans hI543
 replace hL620 := hL620.trans hI543
 refine ws_next (pend' := []) hst (by kernel_rfl) pk_nil ?_
 refine wsr (.tuple #[.agg #[U6 t539.1.ID.Session, U6 t539.1.ID.Seq, U6 t539.1.Epoch, v544, v547, v550, v553], .bool t539.2]) 7 z z z (by kernel_rfl) (fun w hst => z) (wsr (.agg #[U6 t539.1.ID.Session, U6 t539.1.ID.Seq, U6 t539.1.Epoch, v544, v547, v550, v553]) 8 z z z (by kernel_rfl) (fun w hst => z) (wsr (.bool t539.2) 9 z z z (by kernel_rfl) (fun w hst => z) ?_))
 refine ws_e1 10 (by kernel_rfl) ?_
 refine nxe [11, 12] (by kernel_rfl) z z ?_
 clear hst
 intro w hst
 obtain ⟨b560, w561, ew562, eb563, hst⟩ := hst.box [Zu, Zu, Zu, Zs, Zs, Zs, Zs] 46
 refine we_run (v := Pt b560 0) (w' := w561) z (x_al (by kernel_rfl) ew562 eb563) ?_
 refine ws_next (pend' := [(9, .bool t539.2), (8, .agg #[U6 t539.1.ID.Session, U6 t539.1.ID.Seq, U6 t539.1.Epoch, v544, v547, v550, v553]), (7, .tuple #[.agg #[U6 t539.1.ID.Session, U6 t539.1.ID.Seq, U6 t539.1.Epoch, v544, v547, v550, v553], .bool t539.2])]) hst (by kernel_rfl) (pkr z z (fun w hst => z) (pkr z z (fun w hst => z) (pkr z z (fun w hst => z) pk_nil))) ?_
 refine ws_e1 11 (by kernel_rfl) ?_
 refine nxe [12] (by kernel_rfl) z z ?_
 clear hst
 intro w hst
 obtain ⟨w565, hr566, hst⟩ := hst.bx [U6 t539.1.ID.Session, U6 t539.1.ID.Seq, U6 t539.1.Epoch, v544, v547, v550, v553] sizeOf46 z (oC z (oC z (oC z (oC (one_of_sliceV (ro_sliceV f546)) (oC (one_of_sliceV (ro_sliceV f549)) (oC (one_of_sliceV (ro_sliceV f552)) (oC (one_of_sliceV (ro_sliceV f555)) oN))))))) (by kernel_rfl)
 refine we_unit z (x_unit hr566) ?_
 refine ws_next (pend' := [(9, .bool t539.2)]) hst (by kernel_rfl) (pkr z z (fun w hst => z) pk_nil) ?_
 refine wsr (.bool t539.2) 12 z z z (by kernel_rfl) (fun w hst => z) ?_
 refine ws_nil ?_
 intro w hst
 refine ⟨z, ?_⟩
 replace hst := hst.pull4.pull4.pull4.pull4
 replace hst := at_ref16_State_close (pv := Pt b520 0) (x := a0) hst ⟨z, f523, f526, f529, f532⟩
 replace hst := hst.pull1.pull2.pull2.keep3
 obtain rfl := some_inj hm
 exact ⟨_, t539.1.ID.Session, t539.1.ID.Seq, t539.1.Epoch, t539.1.Gets, t539.1.Scans, t539.1.Puts, t539.1.Data, t539.2, b560, v544, v547, v550, v553, _, hx619, (fu 0 (Pt b520 0) z (fu 3 (Pt b515 0) z (fu 5 (Pt b560 0) z (fu 6 (.bool t539.2) z z)))), hL620, f546, f549, f552, f555, hst⟩
}
 {
 refine nxe [6, 7, 8, 9, 11, 12] (by kernel_rfl) z z ?_
 clear hst
 intro w hst
 obtain ⟨b571, w572, ew573, eb574, hst⟩ := hst.box [Zu, Zu, Zu, Zs, Zs, Zs, Zs] 46
 refine we_run (v := Pt b571 0) (w' := w572) z (x_al (by kernel_rfl) ew573 eb574) ?_
 refine ws_next (pend' := [(5, .agg #[U6 a1.ID.Session, U6 a1.ID.Seq]), (4, Pt b515 0), (3, v524), (2, Pt b520 3), (1, Pt b520 0), (0, Pt b520 0)]) hst (by kernel_rfl) (pkr z z (fun w hst => x_loadN (cs := [U6 a1.ID.Session, U6 a1.ID.Seq]) z isAgg28 sizeOf28 (hst.bcs5 0 z)) (pkr z z (fun w hst => x_field z underlying46 z sizeOf28 z) (pkr z z (fun w hst => x_load z isAgg125 (hst.bc1 z)) (pkr z z (fun w hst => x_field z underlying130 z sizeOf125 z) (pkr z z (fun w hst => z) (pkr z z (fun w hst => z) pk_nil)))))) ?_
 refine ws_e1 6 (by kernel_rfl) ?_
 refine nxe [7, 8, 9, 11, 12] (by kernel_rfl) z z ?_
 clear hst
 intro w hst
 refine wec call70 [v524, .agg #[U6 a1.ID.Session, U6 a1.ID.Seq]] z z ?_
 refine (ref11_Held_ref f526 hst.to0 ht540).mono ?_
 rintro _ w576 ⟨I577, v579, v582, v585, v588, rfl, hI578, f581, f584, f587, f590, hst⟩
 refine ⟨_, z, ?_⟩
 replace hst := hst.of0
 replace f1_0 := f1_0.mono (ro_le hI578)
 replace f1_1 := f1_1.mono (ro_le hI578)
 replace f1_2 := f1_2.mono (ro_le hI578)
 replace f1_3 := f1_3.mono (ro_le hI578)
 replace f523 := f523.mono (ro_le hI578)
 replace f526 := f526.mono (ro_le hI578)
 replace f529 := f529.mono (ro_le hI578)
 replace f532 := f532.mono (ro_le hI578)
 replace hI0 := hI0.trans hI578
 replace hL620 := hL620.trans hI578
 refine ws_next (pend' := []) hst (by kernel_rfl) pk_nil ?_
 refine wsr (.tuple #[.agg #[U6 t539.1.ID.Session, U6 t539.1.ID.Seq, U6 t539.1.Epoch, v579, v582, v585, v588], .bool t539.2]) 7 z z z (by kernel_rfl) (fun w hst => z) (wsr (.agg #[U6 t539.1.ID.Session, U6 t539.1.ID.Seq, U6 t539.1.Epoch, v579, v582, v585, v588]) 8 z z z (by kernel_rfl) (fun w hst => z) (wsr (.bool t539.2) 9 z z z (by kernel_rfl) (fun w hst => z) ?_))
 refine ws_e1 11 (by kernel_rfl) ?_
 refine nxe [12] (by kernel_rfl) z z ?_
 clear hst
 intro w hst
 obtain ⟨w591, hr592, hst⟩ := hst.bx [U6 t539.1.ID.Session, U6 t539.1.ID.Seq, U6 t539.1.Epoch, v579, v582, v585, v588] sizeOf46 z (oC z (oC z (oC z (oC (one_of_sliceV (ro_sliceV f581)) (oC (one_of_sliceV (ro_sliceV f584)) (oC (one_of_sliceV (ro_sliceV f587)) (oC (one_of_sliceV (ro_sliceV f590)) oN))))))) (by kernel_rfl)
 refine we_unit z (x_unit hr592) ?_
 refine ws_next (pend' := [(9, .bool t539.2)]) hst (by kernel_rfl) (pkr z z (fun w hst => z) pk_nil) ?_
 refine wsr (.bool t539.2) 12 z z z (by kernel_rfl) (fun w hst => z) ?_
 refine ws_nil ?_
 intro w hst
 refine ⟨z, ?_⟩
 replace hst := hst.pull4.pull4.pull4.pull4
 replace hst := at_ref16_State_close (pv := Pt b520 0) (x := a0) hst ⟨z, f523, f526, f529, f532⟩
 replace hst := hst.pull1.pull2.pull2.keep3
 obtain rfl := some_inj hm
 exact ⟨_, t539.1.ID.Session, t539.1.ID.Seq, t539.1.Epoch, t539.1.Gets, t539.1.Scans, t539.1.Puts, t539.1.Data, t539.2, b571, v579, v582, v585, v588, _, hx619, (fu 0 (Pt b520 0) z (fu 3 (Pt b515 0) z (fu 5 (Pt b571 0) z (fu 6 (.bool t539.2) z z)))), hL620, f581, f584, f587, f590, hst⟩
}
}
 {
 clear hst
 rintro _ w621 ⟨I615, z595, z596, z597, z600, z604, z608, z612, z614, b594, v599, v603, v607, v611, σ616, hm, rfl, hL617, f601, f605, f609, f613, hst⟩
 dsimp only [ref16_State_Hold_j0] at hm
 replace f1_0 := f1_0.mono (ro_le hL617)
 replace f1_1 := f1_1.mono (ro_le hL617)
 replace f1_2 := f1_2.mono (ro_le hL617)
 replace f1_3 := f1_3.mono (ro_le hL617)
 replace f523 := f523.mono (ro_le hL617)
 replace f526 := f526.mono (ro_le hL617)
 replace f529 := f529.mono (ro_le hL617)
 replace f532 := f532.mono (ro_le hL617)
 replace hI0 := hI0.trans hL617
 refine tn ?_
 obtain ⟨y631, hm, hx632⟩ := joinO_some hm
 refine wp_cut (fun a w => ∃ (σ629 : Nat → Value), (ref16_State_Hold_j1 z614 a1 a0 z597) () = some r ∧ a = Fr 65 (upd (upd (upd (upd σ629 0 (Pt b520 0)) 3 (Pt b515 0)) 5 (Pt b594 0)) 6 (.bool z614)) ∧ St w0 w I615 [at_ref16_State (Pt b520 0) a0, cells b515 [U6 a1.ID.Session, U6 a1.ID.Seq, U6 a1.Epoch, r1_0, r1_1, r1_2, r1_3], cells b594 [U6 z595, U6 z596, U6 z597, v599, v603, v607, v611]] R) ?_ ?_
 {
 refine wp_seq (wrl (wv (.bool z614) z z z (wv (.bool z614) z z z ?_)))
 refine bsplit z614 (fun hc622 => ?_) (fun hc622 => ?_)
 {
 replace hm := bif_t hc622 hm
 refine wv (.agg #[U6 z595, U6 z596, U6 z597, v599, v603, v607, v611]) ((wanted_eq z z z (cvb hc622)).trans z) z (x_loadN (cs := [U6 z595, U6 z596, U6 z597, v599, v603, v607, v611]) z isAgg46 sizeOf46 (hst.bcs2 0 z)) (wv (.agg #[U6 a1.ID.Session, U6 a1.ID.Seq, U6 a1.Epoch, r1_0, r1_1, r1_2, r1_3]) ((wanted_eq z z z (cvb hc622)).trans z) z (x_loadN (cs := [U6 a1.ID.Session, U6 a1.ID.Seq, U6 a1.Epoch, r1_0, r1_1, r1_2, r1_3]) z isAgg46 sizeOf46 (hst.bcs1 0 z)) ?_)
 obtain ⟨t623, ht624, hm⟩ := bind_some hm
 refine wl_call ((wanted_eq z z z (cvb hc622)).trans z) z (x_call call89 z (vs := [.agg #[U6 z595, U6 z596, U6 z597, v599, v603, v607, v611], .agg #[U6 a1.ID.Session, U6 a1.ID.Seq, U6 a1.Epoch, r1_0, r1_1, r1_2, r1_3]]) z) ?_
 refine (ref11_SameHold_ref (a0 := ({ ID := ({ Session := z595, Seq := z596 } : api_ID), Epoch := z597, Gets := z600, Scans := z604, Puts := z608, Data := z612 } : api_Hold)) (f601.mono ro_rd) (f605.mono ro_rd) (f609.mono ro_rd) (f613.mono ro_rd) (f1_0.mono ro_rd) (f1_1.mono ro_rd) (f1_2.mono ro_rd) (f1_3.mono ro_rd) hst.to0 ht624).mono ?_
 rintro _ w625 ⟨rfl, hst⟩
 refine ⟨_, z, ?_⟩
 replace hst := hst.of0
 refine wv (.bool t623) z z (x_pick_t hc622 z z) (wl_nil (tn ?_))
 refine bsplit t623 (fun hc628 => ?_) (fun hc628 => ?_)
 {
 replace hm := bif_t hc628 hm
 refine wp_ift (cvb hc628) ?_
 refine wp_seq (wrl (wv (.int .i64 (0:Int)) z z z (wl_nil (tn (wp_ret (then_r ?_))))))
 replace hm := inr_up hm hx632
 obtain rfl := some_inj hm
 refine post_ret (vs := [Zi]) results69 (rvs_cons (rv_tmp z) rvs_nil) ?_
 exact ⟨_, z, hI0, hst.keep1⟩
}
 {
 replace hm := bif_f hc628 hm
 refine wp_iff (cvb hc628) ?_
 refine wp_skip (tn ?_)
 replace hst := hst.pull2.pull2.pull2.keep3
 obtain rfl := some_inj hm
 exact ⟨_, hx632, (fu 0 (Pt b520 0) z (fu 3 (Pt b515 0) z (fu 5 (Pt b594 0) z (fu 6 (.bool z614) z z)))), hst⟩
}
}
 {
 replace hm := bif_f hc622 hm
 refine wo hc622 z z z z z z (wo hc622 z z z z z z (wo hc622 z z z z z z (wv (.bool false) z z (x_pick_f hc622 z z) (wl_nil (tn ?_)))))
 refine wp_iff z ?_
 refine wp_skip (tn ?_)
 replace hst := hst.pull2.pull2.pull2.keep3
 obtain rfl := some_inj hm
 exact ⟨_, hx632, (fu 0 (Pt b520 0) z (fu 3 (Pt b515 0) z (fu 5 (Pt b594 0) z (fu 6 (.bool z614) z z)))), hst⟩
}
}
 {
 clear hst
 rintro _ w633 ⟨σ629, hm, rfl, hst⟩
 dsimp only [ref16_State_Hold_j1] at hm
 obtain ⟨y639, hm, hx640⟩ := joinO_some hm
 refine wp_cut (fun a w => ∃ (σ637 : Nat → Value), (ref16_State_Hold_j2 z614 a1 a0) () = some r ∧ a = Fr 65 (upd (upd (upd σ637 0 (Pt b520 0)) 3 (Pt b515 0)) 6 (.bool z614)) ∧ St w0 w I615 [at_ref16_State (Pt b520 0) a0, cells b515 [U6 a1.ID.Session, U6 a1.ID.Seq, U6 a1.Epoch, r1_0, r1_1, r1_2, r1_3]] R) ?_ ?_
 {
 refine wp_seq (wrl (wv (.bool z614) z z z (wv (.bool z614) z z z ?_)))
 refine bsplit z614 (fun hc634 => ?_) (fun hc634 => ?_)
 {
 replace hm := bif_t hc634 hm
 refine wv (Pt b515 0) ((wanted_eq z z z (cvb hc634)).trans z) z (x_field z underlying46 z sizeOf28 z) (wv (Pt b515 0) ((wanted_eq z z z (cvb hc634)).trans z) z (x_field z underlying28 z sizeOf26 z) (wv (.int .u64 a1.ID.Session) ((wanted_eq z z z (cvb hc634)).trans z) z (x_load z isAgg26 (hst.bc1 z)) (wv (.bool (decide (a1.ID.Session < (9223372036854775808:Int)))) ((wanted_eq z z z (cvb hc634)).trans z) z z (wv (.bool (decide (a1.ID.Session < (9223372036854775808:Int)))) ((wanted_eq z z z (cvb hc634)).trans z) z z ?_))))
 refine bsplit (decide (a1.ID.Session < (9223372036854775808:Int))) (fun hc635 => ?_) (fun hc635 => ?_)
 {
 replace hm := bif_t hc635 hm
 refine wo hc635 z z z z z z (wo hc635 z z z z z z (wo hc635 z z z z z z (wo hc635 z z z z z z (wo hc635 z z z z z z (wv (.bool true) ((wanted_eq z z z (cvb hc634)).trans z) z (x_pick_t hc635 z z) (wv (.bool true) z z (x_pick_t hc634 z z) (wl_nil (tn ?_))))))))
 refine wp_ift z ?_
 refine wp_seq (wrl (wv (.int .i64 (8:Int)) z z z (wl_nil (tn (wp_ret (then_r ?_))))))
 replace hm := inr_up hm hx640
 obtain rfl := some_inj hm
 refine post_ret (vs := [I6 (8:Int)]) results69 (rvs_cons (rv_tmp z) rvs_nil) ?_
 exact ⟨_, z, hI0, hst.keep1⟩
}
 {
 replace hm := bif_f hc635 hm
 refine wv (Pt b515 2) ((wanted_eq z z z (cvb hc635)).trans z) z (x_field z underlying46 z sizeOf26 z) (wv (.int .u64 a1.Epoch) ((wanted_eq z z z (cvb hc635)).trans z) z (x_load z isAgg26 (hst.bc1 z)) (wv (Pt b594 2) ((wanted_eq z z z (cvb hc635)).trans z) z (x_field z underlying46 z sizeOf26 z) (wv (.int .u64 z597) ((wanted_eq z z z (cvb hc635)).trans z) z (x_load z isAgg26 (hst.bc2 z)) (wv (.bool (decide (a1.Epoch ≤ z597))) ((wanted_eq z z z (cvb hc635)).trans z) z z (wv (.bool (decide (a1.Epoch ≤ z597))) ((wanted_eq z z z (cvb hc634)).trans z) z (x_pick_f hc635 z z) (wv (.bool (decide (a1.Epoch ≤ z597))) z z (x_pick_t hc634 z z) (wl_nil (tn ?_))))))))
 refine bsplit (decide (a1.Epoch ≤ z597)) (fun hc636 => ?_) (fun hc636 => ?_)
 {
 replace hm := bif_t hc636 hm
 refine wp_ift (cvb hc636) ?_
 refine wp_seq (wrl (wv (.int .i64 (8:Int)) z z z (wl_nil (tn (wp_ret (then_r ?_))))))
 replace hm := inr_up hm hx640
 obtain rfl := some_inj hm
 refine post_ret (vs := [I6 (8:Int)]) results69 (rvs_cons (rv_tmp z) rvs_nil) ?_
 exact ⟨_, z, hI0, hst.keep1⟩
}
 {
 replace hm := bif_f hc636 hm
 refine wp_iff (cvb hc636) ?_
 refine wp_skip (tn ?_)
 replace hst := hst.pull1.pull1.keep2
 obtain rfl := some_inj hm
 exact ⟨_, hx640, (fu 0 (Pt b520 0) z (fu 3 (Pt b515 0) z (fu 6 (.bool z614) z z))), hst⟩
}
}
}
 {
 replace hm := bif_f hc634 hm
 refine wo hc634 z z z z z z (wo hc634 z z z z z z (wo hc634 z z z z z z (wo hc634 z z z z z z (wo hc634 z z z z z z (wl_off (wanted_undef z z z z) z (wl_off (wanted_undef z z z z) z (wl_off (wanted_undef z z z z) z (wl_off (wanted_undef z z z z) z (wl_off (wanted_undef z z z z) z (wo hc634 z z z z z z (wv (.bool false) z z (x_pick_f hc634 z z) (wl_nil (tn ?_)))))))))))))
 refine wp_iff z ?_
 refine wp_skip (tn ?_)
 replace hst := hst.pull1.pull1.keep2
 obtain rfl := some_inj hm
 exact ⟨_, hx640, (fu 0 (Pt b520 0) z (fu 3 (Pt b515 0) z (fu 6 (.bool z614) z z))), hst⟩
}
}
 {
 clear hst
 rintro _ w641 ⟨σ637, hm, rfl, hst⟩
 dsimp only [ref16_State_Hold_j2] at hm
 obtain ⟨y666, hm, hx667⟩ := joinO_some hm
 refine wp_cut (fun a w => ∃ (σ664 : Nat → Value), (ref16_State_Hold_j3 a0 a1) () = some r ∧ a = Fr 65 (upd (upd σ664 0 (Pt b520 0)) 3 (Pt b515 0)) ∧ St w0 w I615 [at_ref16_State (Pt b520 0) a0, cells b515 [U6 a1.ID.Session, U6 a1.ID.Seq, U6 a1.Epoch, r1_0, r1_1, r1_2, r1_3]] R) ?_ ?_
 {
 refine wp_seq ?_
 obtain ⟨b642, v643, v646, v649, v652, v655, v657, v659, ⟨e661, f645, f648, f651, f654⟩, hst'⟩ := at_ref16_State_open hst
 clear hst
 have e661 := ptr_inj e661
 subst e661
 have hst := hst'
 clear hst'
 refine wq_regionS hst Tryz.mixed (by kernel_rfl) ?_
 refine wq_run (v := .bool z614) z z (fun w hst => z) ?_
 refine wq_run (v := .bool (!z614)) z z (fun w hst => z) ?_
 refine wq_run (v := .bool (!z614)) z z (fun w hst => z) ?_
 refine bsplit (!z614) (fun hc662 => ?_) (fun hc662 => ?_)
 {
 replace hm := bif_t hc662 hm
 refine wq_run (v := Pt b515 2) ((wanted_eq z z z (cvb hc662)).trans z) z (fun w hst => x_field z underlying46 z sizeOf26 z) ?_
 refine wq_run (v := .int .u64 a1.Epoch) ((wanted_eq z z z (cvb hc662)).trans z) z (fun w hst => x_load z isAgg26 (hst.bc4 z)) ?_
 refine wq_run (v := Pt b520 0) ((wanted_eq z z z (cvb hc662)).trans z) z (fun w hst => z) ?_
 refine wq_run (v := Pt b520 0) ((wanted_eq z z z (cvb hc662)).trans z) z (fun w hst => z) ?_
 refine wq_run (v := Pt b520 1) ((wanted_eq z z z (cvb hc662)).trans z) z (fun w hst => x_field z underlying130 z sizeOf26 z) ?_
 refine wq_run (v := .int .u64 a0.Epoch) ((wanted_eq z z z (cvb hc662)).trans z) z (fun w hst => x_load z isAgg26 (hst.bc0 z)) ?_
 refine wq_run (v := .bool (a1.Epoch != a0.Epoch)) ((wanted_eq z z z (cvb hc662)).trans z) z (fun w hst => z) ?_
 refine wq_run (v := .bool (a1.Epoch != a0.Epoch)) z z (fun w hst => x_pick_t hc662 z z) ?_
 refine wq_nil ?_
 intro w hst
 refine tn ?_
 refine bsplit (a1.Epoch != a0.Epoch) (fun hc663 => ?_) (fun hc663 => ?_)
 {
 replace hm := bif_t hc663 hm
 refine wp_ift (cvb hc663) ?_
 refine wp_seq (wrl (wv (.int .i64 (9:Int)) z z z (wl_nil (tn (wp_ret (then_r ?_))))))
 replace hm := inr_up hm hx667
 replace hst := hst.pull3.pull3.pull3.pull3
 replace hst := at_ref16_State_close (pv := Pt b520 0) (x := a0) hst ⟨z, f645, f648, f651, f654⟩
 obtain rfl := some_inj hm
 refine post_ret (vs := [I6 (9:Int)]) results69 (rvs_cons (rv_tmp z) rvs_nil) ?_
 exact ⟨_, z, hI0, hst.keep1⟩
}
 {
 replace hm := bif_f hc663 hm
 refine wp_iff (cvb hc663) ?_
 refine wp_skip (tn ?_)
 replace hst := hst.pull3.pull3.pull3.pull3
 replace hst := at_ref16_State_close (pv := Pt b520 0) (x := a0) hst ⟨z, f645, f648, f651, f654⟩
 replace hst := hst.pull1.pull1.keep2
 obtain rfl := some_inj hm
 exact ⟨_, hx667, (fu 0 (Pt b520 0) z (fu 3 (Pt b515 0) z z)), hst⟩
}
}
 {
 replace hm := bif_f hc662 hm
 refine wq_off ((wanted_eq z z z (cvb hc662)).trans z) z ?_
 refine wq_off ((wanted_eq z z z (cvb hc662)).trans z) z ?_
 refine wq_off ((wanted_eq z z z (cvb hc662)).trans z) z ?_
 refine wq_off ((wanted_eq z z z (cvb hc662)).trans z) z ?_
 refine wq_off ((wanted_eq z z z (cvb hc662)).trans z) z ?_
 refine wq_off ((wanted_eq z z z (cvb hc662)).trans z) z ?_
 refine wq_off ((wanted_eq z z z (cvb hc662)).trans z) z ?_
 refine wq_run (v := .bool false) z z (fun w hst => x_pick_f hc662 z z) ?_
 refine wq_nil ?_
 intro w hst
 refine tn ?_
 refine wp_iff z ?_
 refine wp_skip (tn ?_)
 replace hst := hst.pull3.pull3.pull3.pull3
 replace hst := at_ref16_State_close (pv := Pt b520 0) (x := a0) hst ⟨z, f645, f648, f651, f654⟩
 replace hst := hst.pull1.pull1.keep2
 obtain rfl := some_inj hm
 exact ⟨_, hx667, (fu 0 (Pt b520 0) z (fu 3 (Pt b515 0) z z)), hst⟩
}
}
 {
 clear hst
 rintro _ w668 ⟨σ664, hm, rfl, hst⟩
 dsimp only [ref16_State_Hold_j3] at hm
 refine wp_seq ?_
 obtain ⟨b669, v670, v673, v676, v679, v682, v684, v686, ⟨e688, f672, f675, f678, f681⟩, hst'⟩ := at_ref16_State_open hst
 clear hst
 have e688 := ptr_inj e688
 subst e688
 have hst := hst'
 clear hst'
 refine wp_region_St hst 11 [0, 1, 2, 3, 4, 5, 6, 7, 8, 9, 10] [0, 1, 3, 7, 0, 31, 63, 127, 127, 255, 1023] [] z (by kernel_rfl) (by kernel_rfl) Tryz.mixed (by kernel_rfl) ?_
 refine wsr (Pt b520 0) 0 z z z (by kernel_rfl) (fun w hst => z) (wsr (Pt b520 0) 1 z z z (by kernel_rfl) (fun w hst => z) (wsr (Pt b520 3) 2 z z z (by kernel_rfl) (fun w hst => x_field z underlying130 z sizeOf125 z) (wsr (v673) 3 z z z (by kernel_rfl) (fun w hst => x_load z isAgg125 (hst.bc0 z)) (wsr (.agg #[U6 a1.ID.Session, U6 a1.ID.Seq, U6 a1.Epoch, r1_0, r1_1, r1_2, r1_3]) 4 z z z (by kernel_rfl) (fun w hst => x_loadN (cs := [U6 a1.ID.Session, U6 a1.ID.Seq, U6 a1.Epoch, r1_0, r1_1, r1_2, r1_3]) z isAgg46 sizeOf46 (hst.bcs4 0 z)) ?_))))
 refine ws_e1 5 (by kernel_rfl) ?_
 refine nxe [6, 7, 8, 9, 10] (by kernel_rfl) z z ?_
 clear hst
 intro w hst
 obtain ⟨t689, ht690, hm⟩ := bind_some hm
 refine wec call150 [v673, .agg #[U6 a1.ID.Session, U6 a1.ID.Seq, U6 a1.Epoch, r1_0, r1_1, r1_2, r1_3]] z z ?_
 refine (ref11_Take_ref f675 f1_0 f1_1 f1_2 f1_3 hst.to0 ht690).mono ?_
 rintro _ w691 ⟨I692, v694, rfl, hI693, f696, hst⟩
 refine ⟨_, z, ?_⟩
 replace hst := hst.of0
 replace f1_0 := f1_0.mono (ro_le hI693)
 replace f1_1 := f1_1.mono (ro_le hI693)
 replace f1_2 := f1_2.mono (ro_le hI693)
 replace f1_3 := f1_3.mono (ro_le hI693)
 replace f523 := f523.mono (ro_le hI693)
 replace f526 := f526.mono (ro_le hI693)
 replace f529 := f529.mono (ro_le hI693)
 replace f532 := f532.mono (ro_le hI693)
 replace f601 := f601.mono (ro_le hI693)
 replace f605 := f605.mono (ro_le hI693)
 replace f609 := f609.mono (ro_le hI693)
 replace f613 := f613.mono (ro_le hI693)
 replace f672 := f672.mono (ro_le hI693)
 replace f675 := f675.mono (ro_le hI693)
 replace f678 := f678.mono (ro_le hI693)
 replace f681 := f681.mono (ro_le hI693)
 replace hI0 := hI0.trans hI693
 refine ws_next (pend' := []) hst (by kernel_rfl) pk_nil ?_
 refine wsr (.tuple #[v694, .bool t689.2]) 6 z z z (by kernel_rfl) (fun w hst => z) (wsr (v694) 7 z z z (by kernel_rfl) (fun w hst => z) (wsr (.bool t689.2) 8 z z z (by kernel_rfl) (fun w hst => z) (wsr (v694) 9 z z z (by kernel_rfl) (fun w hst => z) (wsr (.bool t689.2) 10 z z z (by kernel_rfl) (fun w hst => z) ?_))))
 refine ws_nil ?_
 intro w hst
 refine tn (wp_seq (wp_seq (wrl (wv (.bool t689.2) z z z (wv (.bool (!t689.2)) z z z (wl_nil (tn ?_)))))))
 refine bsplit (!t689.2) (fun hc697 => ?_) (fun hc697 => ?_)
 {
 replace hm := bif_t hc697 hm
 refine wp_ift (cvb hc697) ?_
 refine wp_seq (wrl (wv (.int .i64 (8:Int)) z z z (wl_nil (tn (wp_ret (then_r ?_))))))
 replace hst := hst.pull3.pull3.pull3.pull3
 replace hst := at_ref16_State_close (pv := Pt b520 0) (x := a0) hst ⟨z, f672, f675, f678, f681⟩
 obtain rfl := some_inj hm
 refine post_ret (vs := [I6 (8:Int)]) results69 (rvs_cons (rv_tmp z) rvs_nil) ?_
 exact ⟨_, z, hI0, hst.keep1⟩
}
 {
 replace hm := bif_f hc697 hm
 refine wp_iff (cvb hc697) ?_
 refine wp_skip (tn (wp_seq (wrl ?_)))
 refine wv (Pt b520 0) z z z (wv (v694) z z z (wv (Pt b520 0) z z z (wv (Pt b520 3) z z (x_field z underlying130 z sizeOf125 z) ?_)))
 obtain ⟨w698, hr699, hst⟩ := hst.boxStore1 (P := prog) (t := 125) (cs' := [I6 a0.Wide, U6 a0.Epoch, v670, v694, v676, v679, v682, v684, v686]) 3 v694 (one_of_sliceV (ro_sliceV f696)) sizeOf125 z z
 refine wl_unit z z (x_unit hr699) ?_
 refine wl_nil (tn (wp_seq (wrl (wv (.int .i64 (0:Int)) z z z (wl_nil (tn (wp_ret ?_)))))))
 replace hst := hst.pull3.pull3.pull3.pull3
 replace hst := at_ref16_State_close (pv := Pt b520 0) (x := ({ Wide := a0.Wide, Epoch := a0.Epoch, V := a0.V, H := t689.1, A := a0.A, B := a0.B, Open := a0.Open, Out := a0.Out, Used := a0.Used } : ref16_State)) hst ⟨z, f672, f696, f678, f681⟩
 obtain rfl := some_inj hm
 refine post_ret (vs := [Zi]) results69 (rvs_cons (rv_tmp z) rvs_nil) ?_
 exact ⟨_, z, hI0, hst.keep1⟩
}
}
}
}
}
}

end Go.Proofs.YtgnkkopjkgdieaaGreat
