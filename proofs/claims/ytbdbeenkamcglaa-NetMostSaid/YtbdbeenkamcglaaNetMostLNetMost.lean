/- Of more than may be under way the oldest are lost: the plain law. -/
import Derived.Test.YtbdbeenkamcglaaNetMostNtA
import Derived.Test.YtbdbeenkamcglaaNetMostA
set_option linter.unusedVariables false
set_option linter.unusedSimpArgs false
set_option maxRecDepth 100000
namespace Go.Proofs.Ytbdbeenkamcglaa
open Go Go.V
def ntL : net_Link := { From := 2, To := 0, Lane := 1 }
def ntF (j : Nat) : List Int := [((j % 256 : Nat) : Int), ((j / 256 % 256 : Nat) : Int)]
/-- What is under way behind so many frames. -/
def ntX (i : Nat) : List (List Int) := ((List.range i).drop (i - 256)).map ntF
def ntS (i : Nat) : Option net_Net := if i = 0 then ntN none else ntN (some (ntL, ntX i))
theorem ntX_len (i : Nat) : (ntX i).length = i - (i - 256) := by simp [ntX]
theorem ntX_succ (i : Nat) : ((ntX i) ++ [ntF i]).drop ((ntX i).length + 1 - 256) = ntX (i + 1) := by
  rw [ntX_len]
  unfold ntX
  rw [← List.map_singleton (f := ntF), ← List.map_append, ← List.map_drop, List.range_succ]
  congr 1
  have h1 : (List.range i).drop (i - 256) ++ [i] = (List.range i ++ [i]).drop (i - 256) := by
    rw [List.drop_append_of_le_length (by rw [List.length_range]; omega)]
  rw [h1, List.drop_drop]
  congr 1
  omega
theorem ntX_0 {i : Nat} (h : 0 < i) : (ntX i)[0]? = some (ntF (i - 256)) := by
  unfold ntX
  rw [List.getElem?_map, List.getElem?_drop, Nat.add_zero, List.getElem?_range (by omega)]
  rfl
theorem ntF_eq {j : Nat} (h : j < 100000) : [(IntKind.u8.wrap (j : Int)), (IntKind.u8.wrap (IntKind.i64.wrap (Int.tdiv (j : Int) (256:Int))))] = ntF j := by
  have h2 : Int.tdiv (j : Int) (256:Int) = ((j / 256 : Nat) : Int) := by rw [Int.tdiv_eq_ediv_of_nonneg (by omega)]; rfl
  have h3 : IntKind.i64.wrap ((j / 256 : Nat) : Int) = ((j / 256 : Nat) : Int) := by rw [wrap_i64] <;> omega
  rw [h2, h3, wrap_u8_eq, wrap_u8_eq]
  unfold ntF
  rfl
theorem nt_double {l : net_Link} (hl : lkB l = true) {xs : List (List Int)} (hx : xs.length ≤ 256) {x : List Int} (hg : xs[0]? = some x) (hv : x.length ≤ 1000) : net_Net_Double (ntN (some (l, xs))) l (0:Int) = some (if xs.length < 256 then (true, ntN (some (l, xs ++ [x]))) else (false, ntN (some (l, xs)))) := by
  have hlt := (List.getElem?_eq_some_iff.1 hg).1
  have hp := nt_placeC hl (xs := xs) (by omega) (by omega) (i := 0) (by omega)
  rw [Nat.zero_mod] at hp
  have hp : net_Net_place (ntN (some (l, xs))) l (0:Int) = some (0:Int) := hp
  show (net_Net_place (ntN (some (l, xs))) l (0:Int)).bind _ = _
  rw [hp, Option.bind_some]
  show (bif ((l.From == l.From) && (l.To == l.To) && (l.Lane == l.Lane)) then (bif decide ((0:Int) < (0:Int)) then _ else (bif decide (((xs.length : Nat) : Int) ≥ (256:Int)) then _ else ((geto xs (0:Int)).bind _))) else _) = _
  rw [nt_keq, cond_true, show decide ((0:Int) < (0:Int)) = false from rfl, cond_false]
  by_cases h : xs.length < 256
  · have e1 : decide (((xs.length : Nat) : Int) ≥ (256:Int)) = false := decide_eq_false (by omega)
    have g0 : geto xs (0:Int) = some x := (geto_nat (xs := xs) 0).trans hg
    rw [e1, cond_false, if_pos h, g0, Option.bind_some, nt_cl hv, Option.bind_some]
    dsimp only
    rw [gd_true (room_one (by omega))]
    rfl
  · have e1 : decide (((xs.length : Nat) : Int) ≥ (256:Int)) = true := decide_eq_true (by omega)
    rw [e1, cond_true, if_neg h]; rfl
theorem netMost_plain {a0 : Int} (o0 : (Lit.int .u16 a0).wf = true) : law21_NetMost a0 = some true := by
  have hk : lkB ntL = true := rfl
  have hN : ∃ K : Nat, IntKind.i64.wrap ((200:Int) + (Int.tmod (IntKind.i64.wrap a0) (120:Int))) = (K : Int) ∧ 81 ≤ K ∧ K ≤ 319 := by
    obtain ⟨m, hm⟩ : ∃ m, m = Int.tmod (IntKind.i64.wrap a0) (120:Int) := ⟨_, rfl⟩
    have h1 : -120 < m ∧ m < 120 := by
      rw [hm]
      exact ⟨Int.lt_tmod_of_pos _ (by decide), Int.tmod_lt_of_pos _ (by decide)⟩
    rw [← hm, wrap_i64 (by omega) (by omega)]
    exact ⟨(200 + m).toNat, by omega, by omega, by omega⟩
  obtain ⟨K, hK, hK1, hK2⟩ := hN
  unfold law21_NetMost
  rw [nt_awake, Option.bind_some, Bool.not_true, cond_false, nt_open, Option.bind_some]
  have hput : ∀ i, i < K → ∃ e, net_Net_Put (ntS i) ntL (ntF i) = some (e, ntS (i + 1)) := fun i hi => by
    have hv : (ntF i).length ≤ 1000 := by show 2 ≤ 1000; omega
    by_cases h0 : i = 0
    · subst h0
      refine ⟨0, ?_⟩
      have := nt_putE ntL hv
      rw [hk] at this
      exact this
    · have h1 : ntS i = ntN (some (ntL, ntX i)) := if_neg h0
      have h2 : ntS (i + 1) = ntN (some (ntL, ntX (i + 1))) := if_neg (by omega)
      refine ⟨0, ?_⟩
      rw [h1, h2, nt_putC hk (by rw [ntX_len]; omega) hv, ntX_succ]
  have hloop : loopO (law21_NetMost_l1 a0) (ntN none, (0:Int)) = some (ntS K) := by
    refine loop_range (body := law21_NetMost_l1 a0) (fun i => (ntS i, (i : Int))) K (ntS K) (fun i hi => ?_) ?_
    · obtain ⟨e, he⟩ := hput i hi
      have ed : decide ((i : Int) < (K : Int)) = true := decide_eq_true (by omega)
      have he : net_Net_Put (ntS i) { From := (2:Int), To := (0:Int), Lane := (1:Int) } (ntF i) = _ := he
      simp only [law21_NetMost_l1, hK, ed, cond_true, ntF_eq (show i < 100000 by omega), he, Option.bind_some, wrap_succ (show i ≤ 4294967295 by omega)]
    · have ed : decide ((K : Int) < (K : Int)) = false := by simp
      simp only [law21_NetMost_l1, hK, ed, cond_false]; rfl
  rw [hloop, Option.bind_some]
  have hS : ntS K = ntN (some (ntL, ntX K)) := if_neg (by omega)
  have hlen := ntX_len K
  have h0 := ntX_0 (i := K) (by omega)
  have hd := nt_double hk (xs := ntX K) (by omega) h0 (by show 2 ≤ 1000; omega)
  have hd : net_Net_Double (ntN (some (ntL, ntX K))) { From := (2:Int), To := (0:Int), Lane := (1:Int) } (0:Int) = _ := hd
  have hfirst : (bif (decide ((K : Int) > (256:Int))) then (some (IntKind.i64.wrap ((K : Int) - (256:Int)))) else (some (0:Int))) = some ((K - 256 : Nat) : Int) := by
    by_cases h : K > 256
    · have e1 : decide ((K : Int) > (256:Int)) = true := decide_eq_true (by omega)
      have e2 : IntKind.i64.wrap ((K : Int) - (256:Int)) = ((K - 256 : Nat) : Int) := by rw [wrap_i64] <;> omega
      rw [e1, e2]; rfl
    · have e1 : decide ((K : Int) > (256:Int)) = false := decide_eq_false (by omega)
      have e2 : K - 256 = 0 := by omega
      rw [e1, e2]; rfl
  have htake : ∀ ys : List (List Int), ys.length ≤ 1000 → ys[0]? = some (ntF (K - 256)) → ∃ z, net_Net_Take (ntN (some (ntL, ys))) { From := (2:Int), To := (0:Int), Lane := (1:Int) } (0:Int) = some (ntF (K - 256), true, z) := fun ys hy hg => by
    have := nt_takeC hk (xs := ys) hy (i := 0) (by omega) (x := ntF (K - 256)) (by rw [Nat.zero_mod]; exact hg)
    exact ⟨_, this⟩
  have fin : ∀ z : Option net_Net, (bif ([((( K - 256) % 256 : Nat) : Int), (((K - 256) / 256 % 256 : Nat) : Int)] : List Int).length == 2 then some true else some false) = some true := fun z => rfl
  have hF := ntF_eq (j := K - 256) (by omega)
  have hF0 : geto (ntF (K - 256)) (0:Int) = some (IntKind.u8.wrap ((K - 256 : Nat) : Int)) := by rw [← hF]; rfl
  have hF1 : geto (ntF (K - 256)) (1:Int) = some (IntKind.u8.wrap (IntKind.i64.wrap (Int.tdiv ((K - 256 : Nat) : Int) (256:Int)))) := by rw [← hF]; rfl
  simp only [law21_NetMost_j0, hK, hfirst, Option.bind_some, law21_NetMost_j2]
  rw [hS, hd, Option.bind_some]
  by_cases hlt : K < 256
  · have e1 : decide ((K : Int) < (256:Int)) = true := decide_eq_true (by omega)
    rw [if_pos (show (ntX K).length < 256 by omega), e1]
    obtain ⟨z, hz⟩ := htake (ntX K ++ [ntF (K - 256)]) (by rw [List.length_append, List.length_singleton]; omega) (by rw [List.getElem?_append_left (by omega)]; exact h0)
    dsimp only
    rw [hz, Option.bind_some]
    dsimp only
    rw [hF0, Option.bind_some, hF1, Option.bind_some]
    simp
  · have e1 : decide ((K : Int) < (256:Int)) = false := decide_eq_false (by omega)
    rw [if_neg (show ¬ (ntX K).length < 256 by omega), e1]
    obtain ⟨z, hz⟩ := htake (ntX K) (by omega) h0
    dsimp only
    rw [hz, Option.bind_some]
    dsimp only
    rw [hF0, Option.bind_some, hF1, Option.bind_some]
    simp
end Go.Proofs.Ytbdbeenkamcglaa
