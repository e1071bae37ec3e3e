/- What one holds no other one can: the plain law. -/
import Derived.Test.YtgnkkopjkgdieaaGreatLaneHoldsLnA
import Derived.Test.YtgnkkopjkgdieaaGreatLaneHoldsLkT
import Derived.Test.YtgnkkopjkgdieaaGreatLaneHoldsA
set_option linter.unusedVariables false
set_option linter.unusedSimpArgs false
set_option maxRecDepth 100000
namespace Go.Proofs.YtgnkkopjkgdieaaGreat
open Go Go.V
def lkS (l : List api_Hold) : lane_State := { wide := 0, epoch := 1, store := some { rows := [] }, locks := some { l := l }, last := some { l := [] }, book := some { l := [] }, open_ := [], out := [], used := [] }
theorem hld_eq {l : List api_Hold} (h : tabG l) (hn : l.length ≤ 900) {x : api_Hold} (hx : holdG x) (hS : x.ID.Session < 9223372036854775808) :
    lane_State_Hold (some (lkS l)) x = some (match rlook kid (kid x) l with | some y => (bif tr (cHold y = cHold x) then (0, some (lkS l)) else (8, some (lkS l))) | none => (bif x.Epoch != 1 then (9, some (lkS l)) else (bif l.any (bars x) then (8, some (lkS l)) else (0, some (lkS (putL kid l x)))))) := by
  have hg := get_eq h hx.id
  rw [show idk x.ID = kid x from rfl] at hg
  have ht := take_eq h (by omega) hx
  unfold lane_State_Hold
  dsimp only
  rw [show (lkS l).locks = some { l := l } from rfl, hg, Option.bind_some]
  cases e : rlook kid (kid x) l with
  | some y =>
    have hy := h.2.2 y ((look_some h.1).1 e).1
    have hs := lsame_eq hy hx
    dsimp only
    rw [Option.bind_some]
    show joinO ((locks_Same y x).bind fun t415 => _) _ = _
    rw [hs, Option.bind_some]
    have hd : decide (x.ID.Session < 9223372036854775808) = true := decide_eq_true hS
    rw [hd]
    cases tr (cHold y = cHold x) <;> rfl
  | none =>
    dsimp only
    rw [Option.bind_some]
    show joinO (bif x.Epoch != 1 then inrO (some ((9:Int), some (lkS l))) else some (Sum.inl ())) (lane_State_Hold_j1 (lkS l) x) = _
    cases hE : x.Epoch != 1 with
    | true => rfl
    | false =>
      show lane_State_Hold_j1 (lkS l) x () = _
      unfold lane_State_Hold_j1
      rw [show (lkS l).locks = some { l := l } from rfl, ht, Option.bind_some]
      cases hb : l.any (bars x) with
      | true => rfl
      | false => rfl
theorem fin_eq {l : List api_Hold} (h : tabG l) {i : api_ID} (hi : idG i) (n : Int) : ∃ e, lane_State_Apply (some (lkS l)) n { Kind := 3, ID := i, Epoch := 0, Index := 0, E := 8, Hold := zero_api_Hold, Writes := [], R := zero_api_Reply, Shards := 0, Parts := [], Rule := zero_api_Rule, On := false } = some (e, some (lkS (delL kid (idk i) l))) := by
  have hd := drop_eq h hi
  refine ⟨{ Kind := 3, ID := i, R := zero_api_Reply }, ?_⟩
  show (lane_State_finish (some (lkS l)) _).bind _ = _
  unfold lane_State_finish
  dsimp only
  rw [show (lkS l).locks = some { l := l } from rfl, hd, Option.bind_some]
  cases hit kid (idk i) l <;> rfl
theorem now_none {a : Nat} (ha : a < 18446744073709551616) (l : List api_Hold) : lane_State_Now (some (lkS l)) a = some { Has := false, Val := [] } := by
  have hf : mvcc_Store_find (some { rows := [] }) (fRank a) = some (0, false) := by
    have h : loopO (mvcc_Store_find_l0 { rows := [] } (fRank a)) ((0:Int), ((([] : List mvcc_row).length : Nat) : Int)) = some 0 := by rw [loopO_eq]; rfl
    simp only [mvcc_Store_find, h, Option.bind_some]
    rfl
  simp only [lane_State_Now, lkS, mvcc_Store_Get, rank_eq ha, Option.bind_some, hf]
  rfl
theorem laneHolds_plain {a0 a1 : Nat} {a2 : Int} (o0 : (Lit.float .f64 a0).wf = true) (o1 : (Lit.float .f64 a1).wf = true) (o2 : (Lit.int .u64 a2).wf = true) : law16_LaneHolds a0 a1 a2 = some true := by
  have h1 : isU 8 1 := ⟨by decide, by decide⟩
  have h2 : isU 8 2 := ⟨by decide, by decide⟩
  have h3 : isU 8 3 := ⟨by decide, by decide⟩
  have he : isU 8 a2 := ⟨(lit_u64.1 o2).1, by rw [pw8]; have := (lit_u64.1 o2).2; omega⟩
  obtain ⟨A, hA⟩ : ∃ x : api_Hold, x = { ID := { Session := 1, Seq := 1 }, Epoch := 1, Gets := [], Scans := [], Puts := [a0], Data := [] } := ⟨_, rfl⟩
  obtain ⟨B, hB⟩ : ∃ x : api_Hold, x = { ID := { Session := 2, Seq := 1 }, Epoch := 1, Gets := [a1], Scans := [], Puts := [], Data := [] } := ⟨_, rfl⟩
  obtain ⟨C, hC⟩ : ∃ x : api_Hold, x = { ID := { Session := 3, Seq := 1 }, Epoch := a2, Gets := [a1], Scans := [], Puts := [], Data := [] } := ⟨_, rfl⟩
  have gA : holdG A := by
    subst hA
    exact ⟨h1, h1, h1, fun y h => (by cases h), fun y h => (by cases h), fun y h => by rw [List.mem_singleton.1 h]; exact f64_lt o0, Nat.zero_le _, Nat.zero_le _, by show 1 ≤ 32; omega, Nat.zero_le _, fun y h => (by cases h)⟩
  have gB : holdG B := by
    subst hB
    exact ⟨h2, h1, h1, fun y h => by rw [List.mem_singleton.1 h]; exact f64_lt o1, fun y h => (by cases h), fun y h => (by cases h), by show 1 ≤ 32; omega, Nat.zero_le _, Nat.zero_le _, Nat.zero_le _, fun y h => (by cases h)⟩
  have gC : holdG C := by
    subst hC
    exact ⟨h3, h1, he, fun y h => by rw [List.mem_singleton.1 h]; exact f64_lt o1, fun y h => (by cases h), fun y h => (by cases h), by show 1 ≤ 32; omega, Nat.zero_le _, Nat.zero_le _, Nat.zero_le _, fun y h => (by cases h)⟩
  have kA : kid A = 18446744073709551617 := by subst hA; rfl
  have kB : kid B = 36893488147419103233 := by subst hB; rfl
  have kC : kid C = 55340232221128654849 := by subst hC; rfl
  have mAB : mtB A B = (fRank a0 == fRank a1) := by subst hA; subst hB; simp [mtB, wrtB, rdsB]
  have mAC : mtB A C = (fRank a0 == fRank a1) := by subst hA; subst hC; simp [mtB, wrtB, rdsB]
  have mBC : mtB B C = false := by subst hB; subst hC; simp [mtB, wrtB, rdsB]
  have bAB : bars B A = (fRank a0 == fRank a1) := by simp [bars, mAB, kA, kB]
  have bAC : bars C A = (fRank a0 == fRank a1) := by simp [bars, mAC, kA, kC]
  have bBC : bars C B = false := by simp [bars, mBC]
  have hN : lane_New 0 = some (lkS []) := rfl
  have e1 := hld_eq tab_nil (by simp) gA (by subst hA; show (1:Int) < _; omega)
  rw [show rlook kid (kid A) [] = none from rfl, show (A.Epoch != 1) = false by subst hA; rfl] at e1
  simp only [List.any_nil, cond_false] at e1
  have p1 : putL kid [] A = [A] := rfl
  rw [p1] at e1
  have t1 : tabG [A] := by have := tabG_put tab_nil gA (by simp); rwa [p1] at this
  have e2 := hld_eq t1 (by simp) gB (by subst hB; show (2:Int) < _; omega)
  rw [(look_none t1.1).2 (fun z hz => by rw [List.mem_singleton.1 hz, kA, kB]; omega), show (B.Epoch != 1) = false by subst hB; rfl] at e2
  simp only [List.any_cons, List.any_nil, Bool.or_false, cond_false, bAB] at e2
  have hsame : ref01_Same a0 a1 = some (fRank a0 == fRank a1) := by
    rw [same_eq (f64_lt o0) (f64_lt o1)]
    rfl
  have i1 : idG { Session := 1, Seq := 1 } := ⟨h1, h1⟩
  have ik : idk { Session := 1, Seq := 1 } = 18446744073709551617 := rfl
  -- all that comes behind the three holds
  have tail : ∀ (l2 l3 : List api_Hold) (c3 : Int), tabG l3 → l3.length ≤ 900 → (rlook kid (kid B) (delL kid (idk { Session := 1, Seq := 1 }) l3) = some B ∨ (delL kid (idk { Session := 1, Seq := 1 }) l3) = []) →
      lane_State_Hold (some (lkS [A])) B = some (bif fRank a0 == fRank a1 then 8 else 0, some (lkS l2)) → lane_State_Hold (some (lkS l2)) C = some (c3, some (lkS l3)) → c3 = (bif a2 != 1 then 9 else (bif fRank a0 == fRank a1 then 8 else 0)) → law16_LaneHolds a0 a1 a2 = some true := by
    intro l2 l3 c3 t3 n3 hB3 hb2 hc3 hcv
    obtain ⟨ef, hf⟩ := fin_eq t3 i1 5
    have t4 := tabG_del t3 (idk { Session := 1, Seq := 1 })
    have e4 := hld_eq t4 (by have := delL_len t3.1 (idk { Session := 1, Seq := 1 }); omega) gB (by subst hB; show (2:Int) < _; omega)
    have e5 : ∃ l4, lane_State_Hold (some (lkS (delL kid (idk { Session := 1, Seq := 1 }) l3))) B = some (0, some (lkS l4)) := by
      rcases hB3 with hq | hq
      · rw [hq] at e4
        simp only [tr_refl, tr_tt, cond_true] at e4
        exact ⟨_, e4⟩
      · rw [hq] at e4 ⊢
        rw [show rlook kid (kid B) [] = none from rfl, show (B.Epoch != 1) = false by subst hB; rfl] at e4
        simp only [List.any_nil, cond_false] at e4
        exact ⟨_, e4⟩
    obtain ⟨l4, e5⟩ := e5
    unfold law16_LaneHolds
    rw [hN, Option.bind_some, ← hA, e1, Option.bind_some]
    dsimp only
    rw [← hB, hb2, Option.bind_some]
    dsimp only
    rw [← hC, hc3, Option.bind_some]
    dsimp only
    rw [hsame, Option.bind_some]
    have b0 : (bif fRank a0 == fRank a1 then some (8:Int) else some (0:Int)) = some (bif fRank a0 == fRank a1 then 8 else 0) := by cases fRank a0 == fRank a1 <;> rfl
    rw [b0, Option.bind_some]
    unfold law16_LaneHolds_j0
    have b1 : (bif a2 != (1:Int) then some (9:Int) else some (bif fRank a0 == fRank a1 then 8 else 0)) = some c3 := by rw [hcv]; cases a2 != (1:Int) <;> rfl
    rw [b1, Option.bind_some]
    unfold law16_LaneHolds_j1
    rw [hf, Option.bind_some]
    dsimp only
    rw [ln_awake, Option.bind_some, ← hB, e5, Option.bind_some]
    dsimp only
    rw [now_none (f64_lt o0), Option.bind_some]
    simp
  cases hs : fRank a0 == fRank a1 with
  | true =>
    rw [hs] at e2
    simp only [cond_true] at e2
    have e3 := hld_eq t1 (by simp) gC (by subst hC; show (3:Int) < _; omega)
    rw [(look_none t1.1).2 (fun z hz => by rw [List.mem_singleton.1 hz, kA, kC]; omega), show C.Epoch = a2 by subst hC; rfl] at e3
    simp only [List.any_cons, List.any_nil, Bool.or_false, bAC, hs, cond_true] at e3
    have hd : delL kid (idk { Session := 1, Seq := 1 }) [A] = [] := by rw [← filter_rest t1.1, ik]; simp [kA]
    refine tail [A] [A] (bif a2 != 1 then 9 else 8) t1 (by simp) (.inr hd) (by rw [hs]; exact e2) ?_ (by rw [hs]; rfl)
    rw [e3]
    cases a2 != (1:Int) <;> rfl
  | false =>
    rw [hs] at e2
    simp only [cond_false] at e2
    have t2 := tabG_put t1 gB (by simp)
    have m2 : ∀ z, z ∈ putL kid [A] B ↔ z = B ∨ (z ∈ [A] ∧ kid z ≠ kid B) := putL_mem t1.1 B
    have n2 := putL_len t1.1 B
    have e3 := hld_eq t2 (by simp at n2; omega) gC (by subst hC; show (3:Int) < _; omega)
    rw [(look_none t2.1).2 (fun z hz => by
      rcases (m2 z).1 hz with rfl | ⟨hz, _⟩
      · rw [kB, kC]; omega
      · rw [List.mem_singleton.1 hz, kA, kC]; omega), show C.Epoch = a2 by subst hC; rfl] at e3
    have hany : (putL kid [A] B).any (bars C) = false := by
      rw [List.any_eq_false]
      intro z hz
      rcases (m2 z).1 hz with rfl | ⟨hz, _⟩
      · rw [bBC]; simp
      · rw [List.mem_singleton.1 hz, bAC, hs]; simp
    rw [hany] at e3
    simp only [cond_false] at e3
    have keep : ∀ l3, tabG l3 → B ∈ l3 → rlook kid (kid B) (delL kid (idk { Session := 1, Seq := 1 }) l3) = some B := fun l3 t3 hm => by
      refine (look_some (tabG_del t3 _).1).2 ⟨?_, rfl⟩
      rw [← filter_rest t3.1]
      exact List.mem_filter.2 ⟨hm, by rw [ik, kB]; decide⟩
    cases hE : a2 != (1:Int) with
    | true =>
      rw [hE] at e3
      exact tail _ _ 9 t2 (by simp at n2; omega) (.inl (keep _ t2 ((m2 B).2 (.inl rfl)))) (by rw [hs]; exact e2) e3 (by rw [hE]; rfl)
    | false =>
      rw [hE] at e3
      have t3 := tabG_put t2 gC (by simp at n2; omega)
      have n3 := putL_len t2.1 C
      exact tail _ _ 0 t3 (by simp at n2; omega) (.inl (keep _ t3 ((putL_mem t2.1 C B).2 (.inr ⟨(m2 B).2 (.inl rfl), by rw [kB, kC]; omega⟩)))) (by rw [hs]; exact e2) e3 (by rw [hE, hs]; rfl)
end Go.Proofs.YtgnkkopjkgdieaaGreat
