/- The store of versions tells what the document's list tells; plainly. -/
import Derived.Test.YtgnkkopjkgdieaaGreatLaneReadsMxB
set_option linter.unusedVariables false
set_option linter.unusedSimpArgs false
set_option maxRecDepth 100000
namespace Go.Proofs.YtgnkkopjkgdieaaGreat
open Go Go.V
theorem ins_cut {A : List Nat} {k : Nat} {x : Nat} (hk : k ≤ A.length) : subs A (0:Int) (k : Int) ++ [x] ++ subs A (k : Int) (((A.length : Nat) : Int)) = A.take k ++ x :: A.drop k := by
  unfold subs
  rw [Int.toNat_natCast, Int.toNat_natCast, List.take_length, show (0:Int).toNat = 0 from rfl, List.drop_zero, List.append_assoc]
  rfl
theorem fits_nat {α : Type} {A : List α} {i j : Nat} (h1 : i ≤ j) (h2 : j ≤ A.length) : fits A (i : Int) (j : Int) = true := by
  unfold fits
  simp
  omega
theorem atsK {A : List Nat} {m : List ref11_Version} {i : Nat} (hi : i < m.length) (hA : ∀ a ∈ A, isF a) (hx : isF m[i].At) (hr : Rise fRank A) (hn : A.length ≤ 1000000) : loopO (ref11_Ats_l2 A m (i : Int)) (0:Int) = some ((pl fRank (fRank m[i].At) A : Nat) : Int) := by
  have hle := pl_le fRank (fRank m[i].At) A
  refine loop_range (fun j => (j : Int)) (pl fRank (fRank m[i].At) A) _ (fun j hj => ?_) ?_
  · have hjA : j < A.length := by omega
    have h1 : fRank A[j] < fRank m[i].At := pl_lt hjA hj
    simp only [ref11_Ats_l2, lt_t hjA, cond_true, geto_lt hjA, geto_lt hi, Option.bind_some, ahead_eq (hA _ (List.getElem_mem hjA)) hx, h1, decide_true, wrap_succ (show j ≤ 4294967295 by omega)]
  · by_cases hk : pl fRank (fRank m[i].At) A < A.length
    · have h1 := pl_ge (s := fRank m[i].At) hr hk (Nat.le_refl _)
      have h2 : ¬ fRank A[pl fRank (fRank m[i].At) A] < fRank m[i].At := by omega
      simp only [ref11_Ats_l2, lt_t hk, cond_true, geto_lt hk, geto_lt hi, Option.bind_some, ahead_eq (hA _ (List.getElem_mem hk)) hx, h2, decide_false, cond_false, inrO, Option.map_some]
    · have e : decide (((pl fRank (fRank m[i].At) A : Nat) : Int) < ((A.length : Nat) : Int)) = false := by simp; omega
      simp only [ref11_Ats_l2, e, cond_false, inrO, Option.map_some]
def atsS (A : List Nat) (x : Nat) : List Nat := bif hit fRank (fRank x) A then A else putL fRank A x
theorem atsJ {A : List Nat} {m : List ref11_Version} {i : Nat} (hi : i < m.length) (hA : ∀ a ∈ A, isF a) (hx : isF m[i].At) (hn : A.length ≤ 1000000) (hi2 : i ≤ 1000000) :
    ref11_Ats_j1 A m (i : Int) ((pl fRank (fRank m[i].At) A : Nat) : Int) = some (Sum.inl (atsS A m[i].At, ((i + 1 : Nat) : Int))) := by
  have hle := pl_le fRank (fRank m[i].At) A
  have hins : (gd (fits A (0:Int) ((pl fRank (fRank m[i].At) A : Nat) : Int)) (gd (room ([] : List Nat) (subs A (0:Int) ((pl fRank (fRank m[i].At) A : Nat) : Int))) (gd (room (subs A (0:Int) ((pl fRank (fRank m[i].At) A : Nat) : Int)) ([m[i].At])) (gd (fits A ((pl fRank (fRank m[i].At) A : Nat) : Int) (((A).length : Nat) : Int)) (gd (room ((subs A (0:Int) ((pl fRank (fRank m[i].At) A : Nat) : Int)) ++ ([m[i].At])) (subs A ((pl fRank (fRank m[i].At) A : Nat) : Int) (((A).length : Nat) : Int))) (some (Sum.inl ((((subs A (0:Int) ((pl fRank (fRank m[i].At) A : Nat) : Int)) ++ ([m[i].At])) ++ (subs A ((pl fRank (fRank m[i].At) A : Nat) : Int) (((A).length : Nat) : Int))), ((i + 1 : Nat) : Int)))))))) : Option ((List Nat × Int) ⊕ List Nat)) = some (Sum.inl (A.take (pl fRank (fRank m[i].At) A) ++ m[i].At :: A.drop (pl fRank (fRank m[i].At) A), ((i + 1 : Nat) : Int))) := by
    have l1 : (subs A (0:Int) ((pl fRank (fRank m[i].At) A : Nat) : Int)).length ≤ 1000000 := by unfold subs; simp only [List.length_drop, List.length_take]; omega
    have l2 : (subs A ((pl fRank (fRank m[i].At) A : Nat) : Int) ((A.length : Nat) : Int)).length ≤ 1000000 := by unfold subs; simp only [List.length_drop, List.length_take]; omega
    rw [gd_true (show fits A (0:Int) _ = true from fits_nat (i := 0) (Nat.zero_le _) hle), gd_true (room_le (by simp only [List.length_nil]; omega)), gd_true (room_le (by simp only [List.length_singleton]; omega)), gd_true (fits_nat hle (Nat.le_refl _)), gd_true (room_le (by simp only [List.length_append, List.length_singleton]; omega)), ins_cut hle]
  unfold atsS putL pr
  cases hh : hit fRank (fRank m[i].At) A with
  | true =>
    obtain ⟨hk, h1, h2⟩ := look_lt hh
    simp only [ref11_Ats_j1, lt_t hk, cond_true, geto_lt hk, geto_lt hi, Option.bind_some, same_eq (hA _ (List.getElem_mem hk)) hx, h1, decide_true, wrap_succ (show i ≤ 4294967295 by omega)]
  | false =>
    simp only [cond_false]
    by_cases hk : pl fRank (fRank m[i].At) A < A.length
    · have h1 : ¬ fRank A[pl fRank (fRank m[i].At) A] = fRank m[i].At := fun e => by
        have : hit fRank (fRank m[i].At) A = true := by unfold hit; rw [List.getElem?_eq_getElem hk]; simpa using e
        rw [this] at hh; cases hh
      simp only [ref11_Ats_j1, lt_t hk, cond_true, geto_lt hk, geto_lt hi, Option.bind_some, same_eq (hA _ (List.getElem_mem hk)) hx, h1, decide_false, cond_false, wrap_succ (show i ≤ 4294967295 by omega)]
      exact hins
    · have e : decide (((pl fRank (fRank m[i].At) A : Nat) : Int) < ((A.length : Nat) : Int)) = false := by simp; omega
      simp only [ref11_Ats_j1, e, cond_false, geto_lt hi, Option.bind_some, wrap_succ (show i ≤ 4294967295 by omega)]
      exact hins
theorem atsS_rise {A : List Nat} (h : Rise fRank A) (x : Nat) : Rise fRank (atsS A x) := by
  unfold atsS; cases hit fRank (fRank x) A with
  | true => exact h
  | false => exact putL_rise h x
theorem atsS_mem {A : List Nat} (h : Rise fRank A) (x : Nat) (r : Int) : (∃ a ∈ atsS A x, fRank a = r) ↔ (∃ a ∈ A, fRank a = r) ∨ fRank x = r := by
  unfold atsS
  cases hh : hit fRank (fRank x) A with
  | true =>
    obtain ⟨hk, h1, _⟩ := look_lt hh
    refine ⟨.inl, fun h => h.elim id fun e => ⟨_, List.getElem_mem hk, h1.trans e⟩⟩
  | false =>
    simp only [cond_false]
    constructor
    · rintro ⟨a, ha, e⟩
      rcases (putL_mem h x a).1 ha with rfl | ⟨h1, _⟩
      · exact .inr e
      · exact .inl ⟨a, h1, e⟩
    · rintro (⟨a, ha, e⟩ | e)
      · by_cases h2 : fRank a = fRank x
        · exact ⟨x, (putL_mem h x x).2 (.inl rfl), h2 ▸ e⟩
        · exact ⟨a, (putL_mem h x a).2 (.inr ⟨ha, h2⟩), e⟩
      · exact ⟨x, (putL_mem h x x).2 (.inl rfl), e⟩
theorem atsS_F {A : List Nat} (h : Rise fRank A) {x : Nat} (hA : ∀ a ∈ A, isF a) (hx : isF x) : ∀ a ∈ atsS A x, isF a := by
  unfold atsS
  cases hit fRank (fRank x) A with
  | true => exact hA
  | false =>
    intro a ha
    rcases (putL_mem h x a).1 ha with rfl | ⟨h1, _⟩
    · exact hx
    · exact hA a h1
theorem atsS_len {A : List Nat} (h : Rise fRank A) (x : Nat) : (atsS A x).length ≤ A.length + 1 := by
  unfold atsS
  cases hit fRank (fRank x) A with
  | true => simp only [cond_true]; omega
  | false => exact putL_len h x
structure Ats (m : List ref11_Version) (A : List Nat) : Prop where
  rise : Rise fRank A
  f : ∀ a ∈ A, isF a
  mem : ∀ r, (∃ a ∈ A, fRank a = r) ↔ ∃ y ∈ m, fRank y.At = r
  len : A.length ≤ m.length
theorem ats_eq {m : List ref11_Version} (hx : ∀ y ∈ m, isF y.At) (hn : m.length ≤ 1000000) : ∃ A, ref11_Ats m = some A ∧ Ats m A := by
  unfold ref11_Ats
  refine loop_inv (body := ref11_Ats_l0 m) (Inv := fun s => ∃ i : Nat, s.2 = (i : Int) ∧ i ≤ m.length ∧ Ats (m.take i) s.1) (m := fun s => (m.length - s.2).toNat) (Q := fun A => Ats m A) (fun s hs => ?_) ⟨0, rfl, Nat.zero_le _, ⟨rise_nil, fun a h => (by cases h), fun r => (by simp), by simp⟩⟩
  obtain ⟨A, z⟩ := s
  obtain ⟨i, rfl, hi, hA⟩ := hs
  dsimp only at hA
  have hAl := hA.len
  rw [List.length_take] at hAl
  by_cases hil : i < m.length
  · have hmi := List.getElem_mem hil
    left
    simp only [ref11_Ats_l0, lt_t hil, cond_true, atsK hil hA.f (hx _ hmi) hA.rise (by omega), Option.bind_some, atsJ hil hA.f (hx _ hmi) (by omega) (by omega)]
    refine ⟨_, rfl, ⟨i + 1, rfl, by omega, ⟨atsS_rise hA.rise _, atsS_F hA.rise hA.f (hx _ hmi), fun r => ?_, ?_⟩⟩, by dsimp only; omega⟩
    · rw [atsS_mem hA.rise, hA.mem, List.take_succ_eq_append_getElem hil]
      simp only [List.mem_append, List.mem_singleton]
      constructor
      · rintro (⟨y, hy, e⟩ | e)
        · exact ⟨y, .inl hy, e⟩
        · exact ⟨_, .inr rfl, e⟩
      · rintro ⟨y, hy | rfl, e⟩
        · exact .inl ⟨y, hy, e⟩
        · exact .inr e
    · have := atsS_len hA.rise m[i].At
      dsimp only
      rw [List.length_take]; omega
  · have e1 : i = m.length := by omega
    subst e1
    right
    rw [List.take_length] at hA
    exact ⟨A, by simp [ref11_Ats_l0, inrO], hA⟩
theorem rows_ats {n : Nat} {l : List mvcc_row} {m : List ref11_Version} {A : List Nat} (h : Inv n l m) (hA : Ats m A) : l.map rk = A.map fRank := by
  refine rise_ext (k := id) (List.pairwise_map.2 h.rise) (List.pairwise_map.2 hA.rise) fun r => ?_
  rw [List.mem_map, List.mem_map]
  have : (∃ a ∈ A, fRank a = r) ↔ ∃ y ∈ m, fRank y.At = r := hA.mem r
  rw [this]
  constructor
  · rintro ⟨x, hx, e⟩
    obtain ⟨v, hv⟩ := List.exists_mem_of_ne_nil _ (h.ne x hx)
    obtain ⟨y, hy, e2⟩ := List.mem_map.1 (h.pm.mem_iff.1 (flat_mem.2 ⟨x, hx, rfl, hv⟩ : (x.rank, v) ∈ flatV l))
    exact ⟨y, hy, (congrArg Prod.fst e2).trans e⟩
  · rintro ⟨y, hy, e⟩
    obtain ⟨x, hx, h1, _⟩ := flat_mem.1 (h.pm.mem_iff.2 (List.mem_map.2 ⟨y, hy, rfl⟩))
    exact ⟨x, hx, h1.trans e⟩
theorem inv_nil : Inv 0 [] [] := ⟨rise_nil, fun x h => (by cases h), fun x h => (by cases h), List.Perm.refl _, fun x h => (by cases h), fun x h => (by cases h), by simp, by simp⟩
theorem Inv.up {n k : Nat} {l : List mvcc_row} {m : List ref11_Version} (h : Inv n l m) (hk : n ≤ k) : Inv k l m := ⟨h.rise, h.ne, h.vr, h.pm, h.xg, h.cl, h.nd, Nat.le_trans h.mlen hk⟩
end Go.Proofs.YtgnkkopjkgdieaaGreat
