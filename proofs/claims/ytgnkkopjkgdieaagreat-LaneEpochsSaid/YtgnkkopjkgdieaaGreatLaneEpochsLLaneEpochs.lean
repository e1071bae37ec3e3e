/- An epoch is closed just if it is the open one: the plain law. -/
import Derived.Test.YtgnkkopjkgdieaaGreatLaneEpochsLnA
import Derived.Test.YtgnkkopjkgdieaaGreatLaneEpochsMvB
import Derived.Test.YtgnkkopjkgdieaaGreatLaneEpochsA
set_option linter.unusedVariables false
set_option linter.unusedSimpArgs false
set_option maxRecDepth 100000
namespace Go.Proofs.YtgnkkopjkgdieaaGreat
open Go Go.V
def eS (e : Int) (l : List api_Hold) (r : List mvcc_row) : lane_State := { wide := 0, epoch := e, store := some { rows := r }, locks := some { l := l }, last := some { l := [] }, book := some { l := [] }, open_ := [], out := [], used := [] }
def hA : api_Hold := { ID := { Session := 1, Seq := 1 }, Epoch := 1, Gets := [], Scans := [], Puts := [0], Data := [] }
theorem ep_find0 (i : api_ID) : locks_Table_find (some { l := [] }) i = some (0, false) := by
  have h : loopO (locks_Table_find_l1 { l := [] } i) (((([] : List api_Hold).length : Nat) : Int), (0:Int)) = some 0 := by rw [loopO_eq]; rfl
  unfold locks_Table_find
  dsimp only
  rw [h, Option.bind_some]
  rfl
theorem ep_get0 (i : api_ID) : locks_Table_Get (some { l := [] }) i = some (zero_api_Hold, false) := by
  unfold locks_Table_Get
  dsimp only
  rw [ep_find0, Option.bind_some]
  rfl
theorem ep_take0 : locks_Table_Take (some { l := [] }) hA = some (0, some { l := [hA] }) := by
  have c1 : slices_Clone_float64_float64 [] = some [] := gd_true (room_le (by simp))
  have c2 : slices_Clone_float64_float64 [0] = some [0] := gd_true (room_le (by simp))
  have c3 : slices_Clone_2_float64_2_float64 [] = some [] := gd_true (room_le (by simp))
  have c4 : slices_Clone_byte_byte [] = some [] := gd_true (room_le (by simp))
  have h : loopO (locks_Table_Take_l1 { l := [] } hA) (0:Int) = some (Sum.inl ()) := by rw [loopO_eq]; rfl
  unfold locks_Table_Take
  dsimp only
  rw [h]
  show locks_Table_Take_j0 hA { l := [] } () = _
  unfold locks_Table_Take_j0
  rw [show hA.Gets = [] from rfl, show hA.Scans = [] from rfl, show hA.Puts = [0] from rfl, show hA.Data = [] from rfl, c1, Option.bind_some, c3, Option.bind_some, c2, Option.bind_some, c4, Option.bind_some, ep_find0, Option.bind_some]
  have hi : slices_Insert_api_Hold_api_Hold [] 0 [hA] = some [hA] := by
    unfold slices_Insert_api_Hold_api_Hold
    rw [gd_true (by simp [insOK, room])]; rfl
  simp only [cond_false]
  rw [show slices_Insert_api_Hold_api_Hold [] 0 [{ ID := hA.ID, Epoch := hA.Epoch, Gets := [], Scans := [], Puts := [0], Data := [] }] = some [hA] from hi]
  rfl
theorem ep_hold : lane_State_Hold (some (eS 1 [] [])) hA = some (0, some (eS 1 [hA] [])) := by
  unfold lane_State_Hold
  dsimp only
  rw [show (eS 1 [] []).locks = some { l := [] } from rfl, ep_get0, Option.bind_some]
  show lane_State_Hold_j1 (eS 1 [] []) hA () = _
  unfold lane_State_Hold_j1
  rw [show (eS 1 [] []).locks = some { l := [] } from rfl, ep_take0, Option.bind_some]
  rfl
theorem ep_told (s : lane_State) : ∃ r, lane_State_Told (some s) hA = some r := by
  have h1 : loopO (lane_State_Told_l1 hA s) ([], (0:Int)) = some [] := by rw [loopO_eq]; rfl
  have h2 : loopO (lane_State_Told_l2 hA s []) ([], (0:Int)) = some { E := 0, Epoch := 0, Index := 0, Gots := [], Scans := [] } := by rw [loopO_eq]; rfl
  refine ⟨{ E := 0, Epoch := 0, Index := 0, Gots := [], Scans := [] }, ?_⟩
  unfold lane_State_Told
  dsimp only
  rw [h1, Option.bind_some]
  exact h2
def cmdE (k : Int) (i : api_ID) (e x : Int) (h : api_Hold) (ws : List api_Write) : api_Command := { Kind := k, ID := i, Epoch := e, Index := x, E := 0, Hold := h, Writes := ws, R := zero_api_Reply, Shards := 0, Parts := [], Rule := zero_api_Rule, On := false }
theorem ep_prep : ∃ f, lane_State_Apply (some (eS 1 [] [])) 1 (cmdE 2 { Session := 0, Seq := 0 } 0 0 hA []) = some (f, some (eS 1 [hA] [])) := by
  obtain ⟨r, hr⟩ := ep_told (eS 1 [hA] [])
  refine ⟨{ Kind := 2, ID := hA.ID, R := r }, ?_⟩
  show (lane_State_prepare (some (eS 1 [] [])) _).bind _ = _
  unfold lane_State_prepare
  rw [show (cmdE 2 { Session := 0, Seq := 0 } 0 0 hA []).Hold = hA from rfl, ep_hold, Option.bind_some]
  show ((lane_State_Told (some (eS 1 [hA] [])) hA).bind _).bind _ = _
  rw [hr]; rfl
theorem ep_shut1 : lane_State_Apply (some (eS 1 [hA] [])) 2 (cmdE 1 { Session := 0, Seq := 0 } 1 0 zero_api_Hold []) = some (zero_api_Effect, some (eS 1 [hA] [])) := by
  have hl : loopO (locks_Table_Until_l0 { l := [hA] } 1) (0:Int) = some 0 := by rw [loopO_eq]; rfl
  have hu : locks_Table_Until (some { l := [hA] }) 1 = some true := by
    unfold locks_Table_Until
    dsimp only
    rw [hl]; rfl
  show (lane_State_shut (some (eS 1 [hA] [])) _).bind _ = _
  unfold lane_State_shut lane_State_May
  dsimp only
  rw [show (eS 1 [hA] []).locks = some { l := [hA] } from rfl, show (eS 1 [hA] []).epoch = 1 from rfl, hu]
  rfl
theorem ep_or : cmp_Or_int [0, 0] = some 0 := by
  refine loop_range (body := cmp_Or_int_l0 [0, 0]) (fun i => (i : Int)) 2 0 (fun i hi => ?_) rfl
  have : i = 0 ∨ i = 1 := by omega
  rcases this with rfl | rfl <;> rfl
theorem ep_cmp : locks_compare hA hA.ID = some 0 := by
  have h : cmp_Compare_uint64 1 1 = some 0 := rfl
  unfold locks_compare
  rw [show hA.ID.Session = 1 from rfl, show hA.ID.Seq = 1 from rfl, h, Option.bind_some, Option.bind_some, ep_or]
  rfl
theorem ep_find1 : locks_Table_find (some { l := [hA] }) hA.ID = some (0, true) := by
  have g0 : geto [hA] (0:Int) = some hA := rfl
  have e2 : decide ((0:Int) < ((([hA] : List api_Hold).length : Nat) : Int)) = true := by simp
  have h : loopO (locks_Table_find_l1 { l := [hA] } hA.ID) (((([hA] : List api_Hold).length : Nat) : Int), (0:Int)) = some 0 := by
    refine loop_range (fun i : Nat => ((if i = 0 then ((([hA] : List api_Hold).length : Nat) : Int) else 0), (0:Int))) 1 0 (fun i hi => ?_) rfl
    have : i = 0 := by omega
    subst this
    have e1 : IntKind.i64.wrap (iShr .u64 (IntKind.u64.wrap (IntKind.i64.wrap ((0:Int) + ((([hA] : List api_Hold).length : Nat) : Int)))) (1:Int)) = 0 := mid_eq (i := 0) (j := 1) (by omega)
    simp only [locks_Table_find_l1, if_true, e1, e2, cond_true, g0, Option.bind_some, ep_cmp]
    rfl
  unfold locks_Table_find
  dsimp only
  rw [h, Option.bind_some]
  simp only [locks_Table_find_j0, e2, cond_true, g0, Option.bind_some, ep_cmp]
  rfl
theorem ep_drop : locks_Table_Drop (some { l := [hA] }) hA.ID = some (true, some { l := [] }) := by
  have hd : slices_Delete_api_Hold_api_Hold [hA] 0 (IntKind.i64.wrap ((0:Int) + 1)) = some [] := by
    rw [show IntKind.i64.wrap ((0:Int) + 1) = 1 from by rw [wrap_i64] <;> omega]
    unfold slices_Delete_api_Hold_api_Hold
    rw [gd_true (by simp [fits])]; rfl
  unfold locks_Table_Drop
  dsimp only
  rw [ep_find1, Option.bind_some]
  dsimp only
  rw [cond_true, hd]
  rfl
def vE (v : List Int) : mvcc_Version := { Epoch := 1, Index := 3, Del := false, Val := v }
def rowE (v : List Int) : mvcc_row := { rank := fRank 0, l := [vE v] }
def xE (v : List Int) : ref11_Version := { At := 0, Epoch := 1, Index := 3, Del := false, Val := v }
theorem xE_good {v : List Int} (hu : U8s v) (hl : v.length ≤ 100) : xG (xE v) := ⟨by show (0:Nat) < _; decide, ⟨(by decide : (0:Int) ≤ 1), (by decide : (1:Int) < 18446744073709551616), (by decide : (0:Int) ≤ 3), (by decide : (3:Int) < 18446744073709551616)⟩, by show v.length ≤ 256; omega, hu⟩
theorem ep_fin {v : List Int} (hu : U8s v) (hl : v.length ≤ 100) : (∃ f, lane_State_Apply (some (eS 1 [hA] [])) 3 (cmdE 3 { Session := 1, Seq := 1 } 1 3 zero_api_Hold [{ At := 0, Del := false, Val := v }]) = some (f, some (eS 1 [] [rowE v]))) ∧ Inv 1 [rowE v] [xE v] := by
  obtain ⟨p1, m1, q1, i1⟩ := inv_put (l := []) (m := []) (n := 0) ⟨rise_nil, fun x h => (by cases h), fun x h => (by cases h), List.Perm.refl _, fun x h => (by cases h), fun x h => (by cases h), by simp, by simp⟩ (by omega) (xE_good hu hl)
  have hr : putS [] (fRank (xE v).At) (clr (ver (xE v))) = [rowE v] := rfl
  rw [hr] at p1 i1
  have e1 : m1 = [xE v] := by
    have := refput_eq (m := []) (fun y h => by cases h) (xE_good hu hl).1 (by simp) (fun y h => by cases h) (xE_good hu hl).2.1
    rw [q1] at this
    exact some_inj this
  subst e1
  refine ⟨⟨{ Kind := 3, ID := { Session := 1, Seq := 1 }, R := zero_api_Reply }, ?_⟩, i1⟩
  have hL : loopO (lane_State_finish_l0 (cmdE 3 { Session := 1, Seq := 1 } 1 3 zero_api_Hold [{ At := 0, Del := false, Val := v }])) (eS 1 [] [], (0:Int)) = some ({ Kind := 3, ID := { Session := 1, Seq := 1 }, R := zero_api_Reply }, some (eS 1 [] [rowE v])) := by
    refine loop_range (fun i : Nat => ((if i = 0 then eS 1 [] [] else eS 1 [] [rowE v]), (i : Int))) 1 _ (fun i hi => ?_) rfl
    have : i = 0 := by omega
    subst this
    have p1' : mvcc_Store_Put (some { rows := [] }) 0 { Epoch := 1, Index := 3, Del := false, Val := v } = some (some { rows := [rowE v] }) := p1
    show (mvcc_Store_Put (some { rows := [] }) 0 { Epoch := 1, Index := 3, Del := false, Val := v }).bind _ = _
    rw [p1', Option.bind_some, wrap_succ (i := 0) (by omega)]
    rfl
  show (lane_State_finish (some (eS 1 [hA] [])) _).bind _ = _
  unfold lane_State_finish
  dsimp only
  rw [show (eS 1 [hA] []).locks = some { l := [hA] } from rfl, show (cmdE 3 { Session := 1, Seq := 1 } 1 3 zero_api_Hold [{ At := 0, Del := false, Val := v }]).ID = hA.ID from rfl, ep_drop, Option.bind_some]
  show (loopO (lane_State_finish_l0 (cmdE 3 { Session := 1, Seq := 1 } 1 3 zero_api_Hold [{ At := 0, Del := false, Val := v }])) (eS 1 [] [], (0:Int))).bind _ = _
  rw [hL]
  rfl
theorem ep_trim {v : List Int} (h : Inv 1 [rowE v] [xE v]) (e : Int) : mvcc_Store_Trim (some { rows := [rowE v] }) e = some (some { rows := [rowE v] }) := by
  have hr := h.vr (rowE v) (by simp)
  have hg := h.good.vg (rowE v) (by simp)
  have hs := esearch (F := mvcc_Store_Trim_l2 (rowE v) e) e hr hg (by simp [rowE]) fun s => rfl
  have hle := lb_le (upto e) (rowE v).l
  have hlen : (rowE v).l.length = 1 := rfl
  have hL : loopO (mvcc_Store_Trim_l1 { rows := [rowE v] } e) ((0:Int), []) = some [rowE v] := by
    refine loop_range (fun i : Nat => ((i : Int), (if i = 0 then [] else [rowE v]))) 1 _ (fun i hi => ?_) rfl
    have : i = 0 := by omega
    subst this
    have g0 : geto [rowE v] (((0:Nat)) : Int) = some (rowE v) := rfl
    have d0 : decide ((((0:Nat)) : Int) < ((([rowE v] : List mvcc_row).length : Nat) : Int)) = true := by simp
    simp only [mvcc_Store_Trim_l1, d0, cond_true, g0, Option.bind_some, hs]
    generalize lb (upto e) (rowE v).l = k at hle ⊢
    have e1 : (if (0:Int) > IntKind.i64.wrap ((k : Int) - (1:Int)) then (0:Int) else IntKind.i64.wrap ((k : Int) - (1:Int))) = 0 := by
      rw [wrap_i64_eq]
      split <;> omega
    have f1 : fits (rowE v).l (0:Int) ((((rowE v).l).length : Nat) : Int) = true := by simp [fits]
    have hsub : subs (rowE v).l (0:Int) ((((rowE v).l).length : Nat) : Int) = (rowE v).l := rfl
    have hc : slices_Clone_mvcc_Version_mvcc_Version (rowE v).l = some (rowE v).l := gd_true (room_le (by simp [rowE]))
    rw [e1, gd_true f1, hsub, hc, Option.bind_some]
    have hb : ∀ b : Bool, (bif b then ((geto (rowE v).l (0:Int)).bind fun x1231 => (bif x1231.Del then (gd (fits (rowE v).l (1:Int) ((((rowE v).l).length : Nat) : Int)) (some (subs (rowE v).l (1:Int) ((((rowE v).l).length : Nat) : Int)))) else (some (rowE v).l))) else (some (rowE v).l)) = some (rowE v).l := fun b => by cases b <;> rfl
    rw [hb, Option.bind_some]
    unfold mvcc_Store_Trim_j3
    have d1 : decide (((((rowE v).l).length : Nat) : Int) > (0:Int)) = true := by simp [rowE]
    rw [d1, cond_true]
    simp only [if_true]
    rw [gd_true (room_one (by simp)), wrap_succ (i := 0) (by omega)]
    rfl
  unfold mvcc_Store_Trim
  dsimp only
  rw [hL, Option.bind_some]
  rfl
theorem ep_close {v : List Int} (h : Inv 1 [rowE v] [xE v]) (e : Nat) (he : e < 100) : ∃ f, lane_State_Apply (some (eS (e : Int) [] [rowE v])) 9 (cmdE 1 { Session := 0, Seq := 0 } (e : Int) 0 zero_api_Hold []) = some (f, some (eS ((e + 1 : Nat) : Int) [] [rowE v])) ∧ f.Kind = 1 := by
  refine ⟨{ Kind := 1, ID := { Session := 0, Seq := 0 }, R := zero_api_Reply }, ?_, rfl⟩
  show (lane_State_shut (some (eS (e : Int) [] [rowE v])) _).bind _ = _
  unfold lane_State_shut lane_State_May
  dsimp only
  have b1 : ((cmdE 1 { Session := 0, Seq := 0 } (e : Int) 0 zero_api_Hold []).Epoch != (eS (e : Int) [] [rowE v]).epoch) = false := by show ((e : Int) != (e : Int)) = false; simp
  rw [b1, cond_false, show (eS (e : Int) [] [rowE v]).locks = some { l := [] } from rfl, ln_until, Option.bind_some, Option.bind_some]
  have e1 : IntKind.u64.wrap ((eS (e : Int) [] [rowE v]).epoch + (1:Int)) = ((e + 1 : Nat) : Int) := by show IntKind.u64.wrap ((e : Int) + 1) = _; rw [wrap_u64_eq]; omega
  rw [e1, show (eS (e : Int) [] [rowE v]).store = some { rows := [rowE v] } from rfl, ep_trim h]
  cases decide (((e + 1 : Nat) : Int) > 9) <;> rfl
theorem ep_not {v : List Int} (e : Nat) {e' : Int} (he : e' ≠ (e : Int)) : lane_State_Apply (some (eS (e : Int) [] [rowE v])) 9 (cmdE 1 { Session := 0, Seq := 0 } e' 0 zero_api_Hold []) = some (zero_api_Effect, some (eS (e : Int) [] [rowE v])) := by
  show (lane_State_shut (some (eS (e : Int) [] [rowE v])) _).bind _ = _
  unfold lane_State_shut
  dsimp only
  have b1 : ((cmdE 1 { Session := 0, Seq := 0 } e' 0 zero_api_Hold []).Epoch != (eS (e : Int) [] [rowE v]).epoch) = true := by show (e' != (e : Int)) = true; simpa using he
  rw [b1]
  rfl
theorem ep_get {v : List Int} (h : Inv 1 [rowE v] [xE v]) (e : Nat) : mvcc_Store_Get (some { rows := [rowE v] }) 0 (e : Int) = some (if 1 ≤ e then { Has := true, Val := v } else { Has := false, Val := [] }) := by
  have hF : isF 0 := by unfold isF; decide
  obtain ⟨p, h1, h2, _⟩ := got_same h (by omega) hF (e : Int)
  rw [h2]
  have hp := row_perm h (fRank 0)
  have hr := rowV_rise h.rise h.vr (fRank 0)
  by_cases he : 1 ≤ e
  · have : p = some (vE v) := top_one hr hp h1 (show isTop (Lm (fRank 0) [xE v]) (e : Int) (some (vE v)) from by
      simp [isTop, Lm, xE, ver, vE, vk]; omega)
    rw [this, if_pos he]; rfl
  · have : p = none := top_one hr hp h1 (show isTop (Lm (fRank 0) [xE v]) (e : Int) none from by
      simp [isTop, Lm, xE, ver]; omega)
    rw [this, if_neg he]; rfl
theorem laneEpochs_plain {a0 : Int} {a1 : List Int} {a2 : Int} (o0 : (Lit.int .u8 a0).wf = true) (o1 : a1.length ≤ maxLen ∧ ∀ x ∈ a1, (Lit.int .u8 x).wf = true) (_ : (Lit.int .u8 a2).wf = true) : law16_LaneEpochs a0 a1 a2 = some true := by
  unfold law16_LaneEpochs
  simp only [ln_awake, Option.bind_some, Bool.not_true, cond_false]
  cases h0 : decide ((a1.length : Int) > (100:Int)) with
  | true => rfl
  | false =>
  have l0 : a1.length ≤ 100 := by have := of_decide_eq_false h0; omega
  have hu : U8s a1 := fun y hy => lit_u8.1 (o1.2 y hy)
  obtain ⟨k, hk, k15⟩ : ∃ k : Nat, Int.tmod (IntKind.i64.wrap a0) 15 = (k : Int) ∧ k < 15 := by
    have ha := lit_u8.1 o0
    obtain ⟨n, rfl⟩ := Int.eq_ofNat_of_zero_le ha.1
    refine ⟨n % 15, ?_, Nat.mod_lt _ (by omega)⟩
    rw [show IntKind.i64.wrap (n : Int) = (n : Int) from by rw [wrap_i64] <;> omega, Int.tmod_eq_emod_of_nonneg (Int.natCast_nonneg n)]
    rfl
  obtain ⟨f1, hp⟩ := ep_prep
  obtain ⟨⟨f3, hf⟩, hI⟩ := ep_fin hu l0
  have hN : lane_New 0 = some (eS 1 [] []) := rfl
  have hs := ep_shut1
  unfold cmdE hA at hp
  unfold cmdE at hs hf
  rw [cond_false, hN, Option.bind_some, hp, Option.bind_some]
  dsimp only
  show ((lane_State_Apply (some (eS 1 [hA] [])) 2 _).bind _) = _
  rw [hs, Option.bind_some]
  dsimp only
  rw [hf, Option.bind_some]
  dsimp only
  have b0 : (zero_api_Effect.Kind != (0:Int)) = false := rfl
  have he : lane_State_Epoch (some (eS 1 [] [rowE a1])) = some 1 := rfl
  have b1 : ((1:Int) != (1:Int)) = false := rfl
  rw [b0, cond_false, he, Option.bind_some, b1, cond_false]
  have hL : loopO (law16_LaneEpochs_l1 a0) (eS 1 [] [rowE a1], (0:Int)) = some (Sum.inl (eS ((k + 1 : Nat) : Int) [] [rowE a1])) := by
    refine loop_range (fun i : Nat => (eS ((i + 1 : Nat) : Int) [] [rowE a1], (i : Int))) k _ (fun i hi => ?_) (by
      have e1 : decide ((k : Int) < (k : Int)) = false := by simp
      simp only [law16_LaneEpochs_l1, hk, e1, cond_false, inrO, Option.map_some])
    have e1 : decide ((i : Int) < (k : Int)) = true := by simpa using hi
    have e2 : IntKind.u64.wrap (IntKind.i64.wrap ((i : Int) + (1:Int))) = ((i + 1 : Nat) : Int) := by rw [wrap_succ (by omega), wrap_u64_eq]; omega
    have e3 : IntKind.u64.wrap (((i + 1 : Nat) : Int) + (1:Int)) = ((i + 1 + 1 : Nat) : Int) := by rw [wrap_u64_eq]; omega
    have hn := ep_not (v := a1) (i + 1) (e' := ((i + 1 + 1 : Nat) : Int)) (by omega)
    obtain ⟨f, hc, hf1⟩ := ep_close hI (i + 1) (by omega)
    unfold cmdE at hn hc
    have he2 : lane_State_Epoch (some (eS ((i + 1 + 1 : Nat) : Int) [] [rowE a1])) = some ((i + 1 + 1 : Nat) : Int) := rfl
    simp only [law16_LaneEpochs_l1, hk, e1, cond_true, e2, e3]
    rw [hn, Option.bind_some]
    dsimp only
    rw [b0, cond_false, hc, Option.bind_some]
    dsimp only
    rw [hf1, b1, cond_false, he2, Option.bind_some, show (((i + 1 + 1 : Nat) : Int) != ((i + 1 + 1 : Nat) : Int)) = false by simp, cond_false, wrap_succ (show i ≤ 4294967295 by omega)]
  rw [hL]
  show law16_LaneEpochs_j0 a0 a1 (eS ((k + 1 : Nat) : Int) [] [rowE a1]) = _
  unfold law16_LaneEpochs_j0
  have kw : IntKind.u64.wrap (k : Int) = (k : Int) := by rw [wrap_u64_eq]; omega
  have kw1 : IntKind.u64.wrap ((k : Int) + (1:Int)) = ((k + 1 : Nat) : Int) := by rw [wrap_u64_eq]; omega
  refine loop_range (fun i => (i : Int)) (k + 2) true (fun e he => ?_) (by
    have e1 : decide ((((k + 2 : Nat)) : Int) ≤ ((k + 1 : Nat) : Int)) = false := by simp
    simp only [law16_LaneEpochs_l2, hk, kw, kw1, e1, cond_false, inrO, Option.map_some])
  have e1 : decide ((e : Int) ≤ ((k + 1 : Nat) : Int)) = true := by simp; omega
  have w1 : IntKind.u64.wrap ((e : Int) + (1:Int)) = ((e + 1 : Nat) : Int) := by rw [wrap_u64_eq]; omega
  have w8 : IntKind.u64.wrap ((e : Int) + (8:Int)) = ((e + 8 : Nat) : Int) := by rw [wrap_u64_eq]; omega
  have w9 : IntKind.u64.wrap (((e + 1 : Nat) : Int) + (8:Int)) = ((e + 9 : Nat) : Int) := by rw [wrap_u64_eq]; omega
  have hthen : lane_State_then (some (eS ((k + 1 : Nat) : Int) [] [rowE a1])) (e : Int) = some (if k < e then 2 else if e + 8 < k then 9 else 0) := by
    unfold lane_State_then
    dsimp only
    rw [show (eS ((k + 1 : Nat) : Int) [] [rowE a1]).epoch = ((k + 1 : Nat) : Int) from rfl, w1, w9]
    by_cases c1 : k < e
    · rw [decide_eq_true (show (e : Int) ≥ ((k + 1 : Nat) : Int) by omega), if_pos c1]; rfl
    · rw [decide_eq_false (show ¬ (e : Int) ≥ ((k + 1 : Nat) : Int) by omega), if_neg c1]
      by_cases c2 : e + 8 < k
      · rw [decide_eq_true (show ((e + 9 : Nat) : Int) < ((k + 1 : Nat) : Int) by omega), if_pos c2]; rfl
      · rw [decide_eq_false (show ¬ ((e + 9 : Nat) : Int) < ((k + 1 : Nat) : Int) by omega), if_neg c2]; rfl
  have hget : lane_State_Get (some (eS ((k + 1 : Nat) : Int) [] [rowE a1])) 0 (e : Int) = some (if k < e then ({ Has := false, Val := [] }, 2) else if e + 8 < k then ({ Has := false, Val := [] }, 9) else ((if 1 ≤ e then { Has := true, Val := a1 } else { Has := false, Val := [] }), 0)) := by
    unfold lane_State_Get
    dsimp only
    rw [hthen, Option.bind_some]
    by_cases c1 : k < e
    · rw [if_pos c1, if_pos c1]; rfl
    · rw [if_neg c1, if_neg c1]
      by_cases c2 : e + 8 < k
      · rw [if_pos c2, if_pos c2]; rfl
      · rw [if_neg c2, if_neg c2]
        show (mvcc_Store_Get (some { rows := [rowE a1] }) 0 (e : Int)).bind _ = _
        rw [ep_get hI e]; rfl
  simp only [law16_LaneEpochs_l2, hk, kw, kw1, e1, cond_true, hget, Option.bind_some, w1, w8]
  by_cases c1 : k < e
  · rw [decide_eq_true (show (e : Int) > (k : Int) by omega), if_pos c1]; rfl
  · rw [decide_eq_false (show ¬ (e : Int) > (k : Int) by omega), if_neg c1, cond_false]
    by_cases c2 : e + 8 < k
    · rw [decide_eq_true (show ((e + 8 : Nat) : Int) < (k : Int) by omega), if_pos c2]; rfl
    · rw [decide_eq_false (show ¬ ((e + 8 : Nat) : Int) < (k : Int) by omega), if_neg c2, cond_false]
      by_cases c3 : 1 ≤ e
      · rw [if_pos c3, decide_eq_true (show (e : Int) ≥ 1 by omega)]
        simp only [toStr_refl]
        rfl
      · rw [if_neg c3, decide_eq_false (show ¬ (e : Int) ≥ 1 by omega)]; rfl
end Go.Proofs.YtgnkkopjkgdieaaGreat
