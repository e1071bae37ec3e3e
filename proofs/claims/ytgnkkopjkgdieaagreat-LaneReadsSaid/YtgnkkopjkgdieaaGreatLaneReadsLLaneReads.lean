/- What one reads while it holds it: the plain law. -/
import Derived.Test.YtgnkkopjkgdieaaGreatLaneReadsLnR
import Derived.Test.YtgnkkopjkgdieaaGreatLaneReadsCodT
import Derived.Test.YtgnkkopjkgdieaaGreatLaneReadsA
set_option linter.unusedVariables false
set_option linter.unusedSimpArgs false
set_option maxRecDepth 100000
namespace Go.Proofs.YtgnkkopjkgdieaaGreat
open Go Go.V
/-- What the lane's state has in common with the document's. -/
def LRel (k : Nat) (s : lane_State) (m : ref16_State) : Prop := ∃ rows l, s.store = some { rows := rows } ∧ s.locks = some { l := l } ∧ s.epoch = m.Epoch ∧ s.epoch = 1 ∧ Inv (32 * k) rows m.V ∧ tabG l ∧ l.length ≤ k ∧ l.Perm m.H ∧ ∀ y ∈ m.V, y.Epoch = 1
theorem reads_fin {s : lane_State} {m : ref16_State} {k : Nat} (h : LRel k s m) (hk : k ≤ 100) {a1 a2 : Nat} (h1 : isF a1) (h2 : isF a2) : law16_LaneReads_j0 a1 a2 (s, m) = some true := by
  obtain ⟨rows, l, hs, hl, he, he1, hi, ht, hn, hp, hv⟩ := h
  have hn0 := scan_none hi (by omega) (e := 0) (fun y hy => by rw [hv y hy]; omega) h1 h2 64
  have g : asks { ID := ({ Session := (0:Int), Seq := (0:Int) } : api_ID), Epoch := (0:Int), Gets := [(0:Nat), (4607182418800017408:Nat), (4612811918334230528:Nat), a1], Scans := [(a1, a2), ((13830554455654793216:Nat), (4607182418800017408:Nat))], Puts := [], Data := [] } := by
    refine ⟨fun x hx => ?_, fun x hx => ?_, by show 4 ≤ 1000; omega, by show 2 ≤ 1000; omega⟩
    · simp only [List.mem_cons, List.not_mem_nil, or_false] at hx
      rcases hx with rfl | rfl | rfl | rfl
      · show _ < _; decide
      · show _ < _; decide
      · show _ < _; decide
      · exact h1
    · simp only [List.mem_cons, List.not_mem_nil, or_false] at hx
      rcases hx with rfl | rfl
      · exact ⟨h1, h2⟩
      · exact ⟨by show _ < _; decide, by show _ < _; decide⟩
  have t1 := told_l hs hi (by omega) g
  have t2 := told_m hi (by omega) g
  have ts := told_same hi (by omega) g
  have s0 : lane_State_Scan (some s) a1 a2 (0:Int) = some ([], 0) := by
    have e1 : decide ((0:Int) ≥ 1) = false := rfl
    have e2 : decide ((IntKind.u64.wrap ((IntKind.u64.wrap ((0:Int) + (1:Int))) + (8:Int))) < (1:Int)) = false := by decide
    simp only [lane_State_Scan, lane_State_then, he1, e1, e2, cond_false, Option.bind_some]
    rw [hs, hn0]; rfl
  have s1 : lane_State_Scan (some s) a1 a2 (1:Int) = some ([], 2) := by
    have e1 : decide ((1:Int) ≥ 1) = true := rfl
    simp only [lane_State_Scan, lane_State_then, he1, e1, cond_true, Option.bind_some]
    rfl
  simp only [law16_LaneReads_j0, s0, s1, Option.bind_some, t1, t2, ts, cond_true]
  rfl
theorem laneReads_plain {a0 : List Int} {a1 a2 : Nat} (o0 : a0.length ≤ maxLen ∧ ∀ x ∈ a0, (Lit.int .u8 x).wf = true) (o1 : (Lit.float .f64 a1).wf = true) (o2 : (Lit.float .f64 a2).wf = true) : law16_LaneReads a0 a1 a2 = some true := by
  unfold law16_LaneReads
  simp only [ln_awake, Option.bind_some, Bool.not_true, cond_false]
  cases h0 : decide ((a0.length : Int) > (300:Int)) with
  | true => rfl
  | false =>
  have l0 : a0.length ≤ 300 := by have := of_decide_eq_false h0; omega
  have hN : lane_New 0 = some { wide := 0, epoch := 1, store := some { rows := [] }, locks := some { l := [] }, last := some { l := [] }, book := some { l := [] }, open_ := [], out := [], used := [] } := rfl
  have hM : ref16_New 0 = some { Wide := 0, Epoch := 1, V := [], H := [], A := [], B := [], Open := [], Out := [], Used := [] } := rfl
  simp only [cond_false, hN, hM, Option.bind_some]
  have key := loop_inv (body := law16_LaneReads_l1) (fun s => ∃ i : Nat, s.2.2.2 = (i : Int) ∧ i ≤ 10 ∧ tapeOK s.1 ∧ LRel i s.2.1 s.2.2.1) (fun s => (10 - s.2.2.2).toNat) (fun r => LRel 10 r.1 r.2) (fun s hs => by
    obtain ⟨t, s, m, j⟩ := s
    obtain ⟨i, hj, hi10, ht, hL⟩ := hs
    dsimp only at hj ht hL
    subst hj
    by_cases hlt : i < 10
    · left
      obtain ⟨rows, l, hs, hl, he, he1, hi, htb, hn, hp, hv⟩ := hL
      have ed : decide ((i : Int) < (10:Int)) = true := decide_eq_true (by omega)
      obtain ⟨id, t1, e1, hid, ht1⟩ := TP.of_ t ht
      obtain ⟨x, t2, e2, hx, ht2⟩ := TP.float t1 ht1
      obtain ⟨ws, t3, e3, hws, ht3⟩ := TP.writes t2 ht2
      have ei : IntKind.u64.wrap (IntKind.i64.wrap ((i : Int) + (1:Int))) = (i : Int) + 1 := by rw [wrap_i64 (by omega) (by omega), wrap_u64] <;> omega
      have hG : holdG { ID := id, Epoch := (1:Int), Gets := [], Scans := [], Puts := [x], Data := [] } := ⟨hid.1, hid.2, ⟨by show (0:Int) ≤ 1; decide, by show (1:Int) < _; decide⟩, fun y h => (by cases h), fun y h => (by cases h), fun y h => by rw [List.mem_singleton.1 h]; exact hx.1, Nat.zero_le _, Nat.zero_le _, by show 1 ≤ 32; omega, Nat.zero_le _, fun y h => (by cases h)⟩
      obtain ⟨e, e', l', H', q1, q2, _, q4, q5, q6⟩ := prep_both (s := s) (m := m) (c := { Kind := (2:Int), ID := ({ Session := (0:Int), Seq := (0:Int) } : api_ID), Epoch := (0:Int), Index := (0:Int), E := (0:Int), Hold := ({ ID := id, Epoch := (1:Int), Gets := [], Scans := [], Puts := [x], Data := [] } : api_Hold), Writes := [], R := zero_api_Reply, Shards := (0:Int), Parts := [], Rule := zero_api_Rule, On := false }) hs hl he hi (by omega) htb (by omega) hp rfl hG 1
      obtain ⟨rows', V', l2, H2, q7, q8, q9, q10, q11, q12, q13⟩ := fin_both (s := withK s l') (m := withH m H') (c := { Kind := (3:Int), ID := id, Epoch := (1:Int), Index := (i : Int) + 1, E := (0:Int), Hold := zero_api_Hold, Writes := ws, R := zero_api_Reply, Shards := (0:Int), Parts := [], Rule := zero_api_Rule, On := false }) (rows := rows) (l := l') (k := 32 * i) hs rfl hi q4 q6 rfl hid (fun w hw => by
        have g := hws.1.2 w hw
        exact ⟨g.1, ⟨by show (0:Int) ≤ 1; omega, by show (1:Int) < _; omega, by show (0:Int) ≤ (i : Int) + 1; omega, by show (i : Int) + 1 < _; omega⟩, g.2.1, g.2.2⟩) (by have := hws.1.1; dsimp only; omega) 2
      simp only [law16_LaneReads_l1, ed, cond_true, e1, Option.bind_some, e2, law16_LaneReads_j2, e3, law16_LaneReads_j3, ei]
      rw [q1, Option.bind_some]
      dsimp only
      rw [q2, Option.bind_some]
      dsimp only
      rw [q7, Option.bind_some]
      dsimp only
      rw [q8, Option.bind_some]
      refine ⟨_, rfl, ⟨i + 1, ?_, by omega, ht3, rows', l2, rfl, rfl, he, he1, q9.up (by have := hws.1.1; dsimp only; omega), q10, by omega, q12, fun y hy => ?_⟩, ?_⟩
      · show IntKind.i64.wrap ((i : Int) + (1:Int)) = _
        exact wrap_succ (by omega)
      · rcases q13 y hy with h | h
        · exact hv y h
        · exact h.1
      · show (10 - IntKind.i64.wrap ((i : Int) + (1:Int))).toNat < (10 - (i : Int)).toNat
        rw [wrap_i64] <;> omega
    · right
      have : i = 10 := by omega
      subst this
      exact ⟨(s, m), rfl, hL⟩) (s := (({ L := a0, I := (0:Int) } : ref12_Tape), ({ wide := 0, epoch := 1, store := some { rows := [] }, locks := some { l := [] }, last := some { l := [] }, book := some { l := [] }, open_ := [], out := [], used := [] } : lane_State), ({ Wide := 0, Epoch := 1, V := [], H := [], A := [], B := [], Open := [], Out := [], Used := [] } : ref16_State), (0:Int))) ⟨0, rfl, by omega, ⟨Int.le_refl _, by show a0.length ≤ 1000000; omega, fun x hx => lit_u8.1 (o0.2 x hx)⟩, [], [], rfl, rfl, rfl, rfl, inv_nil, tab_nil, Nat.le_refl _, List.Perm.refl _, fun y hy => by cases hy⟩
  obtain ⟨⟨s, m⟩, h1, h2⟩ := key
  rw [h1, Option.bind_some]
  exact reads_fin h2 (by omega) (f64_lt o1) (f64_lt o2)
end Go.Proofs.YtgnkkopjkgdieaaGreat
