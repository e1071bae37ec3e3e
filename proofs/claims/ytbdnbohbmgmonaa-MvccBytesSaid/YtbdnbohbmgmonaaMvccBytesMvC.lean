/- The store of versions tells what the document's list tells; plainly. -/
import Derived.Test.YtbdnbohbmgmonaaMvccBytesMvB
set_option linter.unusedVariables false
set_option linter.unusedSimpArgs false
set_option maxRecDepth 100000
namespace Go.Proofs.Ytbdnbohbmgmonaa
open Go Go.V
theorem join_inl {S R : Type} (x : S) (f : S → Option R) : joinO (some (Sum.inl x)) f = f x := rfl
theorem ins_cut {A : List Nat} {k : Nat} {x : Nat} (hk : k ≤ A.length) : subs A (0:Int) (k : Int) ++ [x] ++ subs A (k : Int) (((A.length : Nat) : Int)) = A.take k ++ x :: A.drop k := by
  unfold subs
  rw [Int.toNat_natCast, Int.toNat_natCast, List.take_length, show (0:Int).toNat = 0 from rfl, List.drop_zero, List.append_assoc]
  rfl
theorem fits_nat {α : Type} {A : List α} {i j : Nat} (h1 : i ≤ j) (h2 : j ≤ A.length) : fits A (i : Int) (j : Int) = true := by
  unfold fits
  simp
  omega
theorem atsK {A : List Nat} {m : List ref11_Version} {i : Nat} (hi : i < m.length) (hA : ∀ a ∈ A, isF a) (hx : isF m[i].At) (hr : Rise fRank A) (hn : A.length ≤ 1000000) : loopO (ref11_Ats_l2 A m (i : Int)) (0:Int) = some ((pl fRank (fRank m[i].At) A : Nat) : Int) := by
  have hle := pl_le fRank (fRank m[i].At) A
  refine loop_range (fun j => (j : Int)) (pl fRank (fRank m[i].At) A) _ (fun j hj => ?_) ?_
  · have hjA : j < A.length := by omega
    have h1 : fRank A[j] < fRank m[i].At := pl_lt hjA hj
    simp only [ref11_Ats_l2, lt_t hjA, cond_true, geto_lt hjA, geto_lt hi, Option.bind_some, ahead_eq (hA _ (List.getElem_mem hjA)) hx, h1, decide_true, wrap_succ (show j ≤ 4294967295 by omega)]
  · by_cases hk : pl fRank (fRank m[i].At) A < A.length
    · have h1 := pl_ge (s := fRank m[i].At) hr hk (Nat.le_refl _)
      have h2 : ¬ fRank A[pl fRank (fRank m[i].At) A] < fRank m[i].At := by omega
      simp only [ref11_Ats_l2, lt_t hk, cond_true, geto_lt hk, geto_lt hi, Option.bind_some, ahead_eq (hA _ (List.getElem_mem hk)) hx, h2, decide_false, cond_false, inrO, Option.map_some]
    · have e : decide (((pl fRank (fRank m[i].At) A : Nat) : Int) < ((A.length : Nat) : Int)) = false := by simp; omega
      simp only [ref11_Ats_l2, e, cond_false, inrO, Option.map_some]
def atsS (A : List Nat) (x : Nat) : List Nat := bif hit fRank (fRank x) A then A else putL fRank A x
theorem atsJ {A : List Nat} {m : List ref11_Version} {i : Nat} (hi : i < m.length) (hA : ∀ a ∈ A, isF a) (hx : isF m[i].At) (hn : A.length ≤ 1000000) (hi2 : i ≤ 1000000) :
    ref11_Ats_j1 A m (i : Int) ((pl fRank (fRank m[i].At) A : Nat) : Int) = some (Sum.inl (atsS A m[i].At, ((i + 1 : Nat) : Int))) := by
  have hle := pl_le fRank (fRank m[i].At) A
  have hins : (gd (fits A (0:Int) ((pl fRank (fRank m[i].At) A : Nat) : Int)) (gd (room ([] : List Nat) (subs A (0:Int) ((pl fRank (fRank m[i].At) A : Nat) : Int))) (gd (room (subs A (0:Int) ((pl fRank (fRank m[i].At) A : Nat) : Int)) ([m[i].At])) (gd (fits A ((pl fRank (fRank m[i].At) A : Nat) : Int) (((A).length : Nat) : Int)) (gd (room ((subs A (0:Int) ((pl fRank (fRank m[i].At) A : Nat) : Int)) ++ ([m[i].At])) (subs A ((pl fRank (fRank m[i].At) A : Nat) : Int) (((A).length : Nat) : Int))) (some (Sum.inl ((((subs A (0:Int) ((pl fRank (fRank m[i].At) A : Nat) : Int)) ++ ([m[i].At])) ++ (subs A ((pl fRank (fRank m[i].At) A : Nat) : Int) (((A).length : Nat) : Int))), ((i + 1 : Nat) : Int)))))))) : Option ((List Nat × Int) ⊕ List Nat)) = some (Sum.inl (A.take (pl fRank (fRank m[i].At) A) ++ m[i].At :: A.drop (pl fRank (fRank m[i].At) A), ((i + 1 : Nat) : Int))) := by
    have l1 : (subs A (0:Int) ((pl fRank (fRank m[i].At) A : Nat) : Int)).length ≤ 1000000 := by unfold subs; simp only [List.length_drop, List.length_take]; omega
    have l2 : (subs A ((pl fRank (fRank m[i].At) A : Nat) : Int) ((A.length : Nat) : Int)).length ≤ 1000000 := by unfold subs; simp only [List.length_drop, List.length_take]; omega
    rw [gd_true (show fits A (0:Int) _ = true from fits_nat (i := 0) (Nat.zero_le _) hle), gd_true (room_le (by simp only [List.length_nil]; omega)), gd_true (room_le (by simp only [List.length_singleton]; omega)), gd_true (fits_nat hle (Nat.le_refl _)), gd_true (room_le (by simp only [List.length_append, List.length_singleton]; omega)), ins_cut hle]
  unfold atsS putL pr
  cases hh : hit fRank (fRank m[i].At) A with
  | true =>
    obtain ⟨hk, h1, h2⟩ := look_lt hh
    simp only [ref11_Ats_j1, lt_t hk, cond_true, geto_lt hk, geto_lt hi, Option.bind_some, same_eq (hA _ (List.getElem_mem hk)) hx, h1, decide_true, wrap_succ (show i ≤ 4294967295 by omega)]
  | false =>
    simp only [cond_false]
    by_cases hk : pl fRank (fRank m[i].At) A < A.length
    · have h1 : ¬ fRank A[pl fRank (fRank m[i].At) A] = fRank m[i].At := fun e => by
        have : hit fRank (fRank m[i].At) A = true := by unfold hit; rw [List.getElem?_eq_getElem hk]; simpa using e
        rw [this] at hh; cases hh
      simp only [ref11_Ats_j1, lt_t hk, cond_true, geto_lt hk, geto_lt hi, Option.bind_some, same_eq (hA _ (List.getElem_mem hk)) hx, h1, decide_false, cond_false, wrap_succ (show i ≤ 4294967295 by omega)]
      exact hins
    · have e : decide (((pl fRank (fRank m[i].At) A : Nat) : Int) < ((A.length : Nat) : Int)) = false := by simp; omega
      simp only [ref11_Ats_j1, e, cond_false, geto_lt hi, Option.bind_some, wrap_succ (show i ≤ 4294967295 by omega)]
      exact hins
theorem atsS_rise {A : List Nat} (h : Rise fRank A) (x : Nat) : Rise fRank (atsS A x) := by
  unfold atsS; cases hit fRank (fRank x) A with
  | true => exact h
  | false => exact putL_rise h x
theorem atsS_mem {A : List Nat} (h : Rise fRank A) (x : Nat) (r : Int) : (∃ a ∈ atsS A x, fRank a = r) ↔ (∃ a ∈ A, fRank a = r) ∨ fRank x = r := by
  unfold atsS
  cases hh : hit fRank (fRank x) A with
  | true =>
    obtain ⟨hk, h1, _⟩ := look_lt hh
    refine ⟨.inl, fun h => h.elim id fun e => ⟨_, List.getElem_mem hk, h1.trans e⟩⟩
  | false =>
    simp only [cond_false]
    constructor
    · rintro ⟨a, ha, e⟩
      rcases (putL_mem h x a).1 ha with rfl | ⟨h1, _⟩
      · exact .inr e
      · exact .inl ⟨a, h1, e⟩
    · rintro (⟨a, ha, e⟩ | e)
      · by_cases h2 : fRank a = fRank x
        · exact ⟨x, (putL_mem h x x).2 (.inl rfl), h2 ▸ e⟩
        · exact ⟨a, (putL_mem h x a).2 (.inr ⟨ha, h2⟩), e⟩
      · exact ⟨x, (putL_mem h x x).2 (.inl rfl), e⟩
theorem atsS_F {A : List Nat} (h : Rise fRank A) {x : Nat} (hA : ∀ a ∈ A, isF a) (hx : isF x) : ∀ a ∈ atsS A x, isF a := by
  unfold atsS
  cases hit fRank (fRank x) A with
  | true => exact hA
  | false =>
    intro a ha
    rcases (putL_mem h x a).1 ha with rfl | ⟨h1, _⟩
    · exact hx
    · exact hA a h1
theorem atsS_len {A : List Nat} (h : Rise fRank A) (x : Nat) : (atsS A x).length ≤ A.length + 1 := by
  unfold atsS
  cases hit fRank (fRank x) A with
  | true => simp only [cond_true]; omega
  | false => exact putL_len h x
structure Ats (m : List ref11_Version) (A : List Nat) : Prop where
  rise : Rise fRank A
  f : ∀ a ∈ A, isF a
  mem : ∀ r, (∃ a ∈ A, fRank a = r) ↔ ∃ y ∈ m, fRank y.At = r
  len : A.length ≤ m.length
theorem ats_eq {m : List ref11_Version} (hx : ∀ y ∈ m, isF y.At) (hn : m.length ≤ 1000000) : ∃ A, ref11_Ats m = some A ∧ Ats m A := by
  unfold ref11_Ats
  refine loop_inv (body := ref11_Ats_l0 m) (Inv := fun s => ∃ i : Nat, s.2 = (i : Int) ∧ i ≤ m.length ∧ Ats (m.take i) s.1) (m := fun s => (m.length - s.2).toNat) (Q := fun A => Ats m A) (fun s hs => ?_) ⟨0, rfl, Nat.zero_le _, ⟨rise_nil, fun a h => (by cases h), fun r => (by simp), by simp⟩⟩
  obtain ⟨A, z⟩ := s
  obtain ⟨i, rfl, hi, hA⟩ := hs
  dsimp only at hA
  have hAl := hA.len
  rw [List.length_take] at hAl
  by_cases hil : i < m.length
  · have hmi := List.getElem_mem hil
    left
    simp only [ref11_Ats_l0, lt_t hil, cond_true, atsK hil hA.f (hx _ hmi) hA.rise (by omega), Option.bind_some, atsJ hil hA.f (hx _ hmi) (by omega) (by omega)]
    refine ⟨_, rfl, ⟨i + 1, rfl, by omega, ⟨atsS_rise hA.rise _, atsS_F hA.rise hA.f (hx _ hmi), fun r => ?_, ?_⟩⟩, by dsimp only; omega⟩
    · rw [atsS_mem hA.rise, hA.mem, List.take_succ_eq_append_getElem hil]
      simp only [List.mem_append, List.mem_singleton]
      constructor
      · rintro (⟨y, hy, e⟩ | e)
        · exact ⟨y, .inl hy, e⟩
        · exact ⟨_, .inr rfl, e⟩
      · rintro ⟨y, hy | rfl, e⟩
        · exact .inl ⟨y, hy, e⟩
        · exact .inr e
    · have := atsS_len hA.rise m[i].At
      dsimp only
      rw [List.length_take]; omega
  · have e1 : i = m.length := by omega
    subst e1
    right
    rw [List.take_length] at hA
    exact ⟨A, by simp [ref11_Ats_l0, inrO], hA⟩
theorem rows_ats {n : Nat} {l : List mvcc_row} {m : List ref11_Version} {A : List Nat} (h : Inv n l m) (hA : Ats m A) : l.map rk = A.map fRank := by
  refine rise_ext (k := id) (List.pairwise_map.2 h.rise) (List.pairwise_map.2 hA.rise) fun r => ?_
  rw [List.mem_map, List.mem_map]
  have : (∃ a ∈ A, fRank a = r) ↔ ∃ y ∈ m, fRank y.At = r := hA.mem r
  rw [this]
  constructor
  · rintro ⟨x, hx, e⟩
    obtain ⟨v, hv⟩ := List.exists_mem_of_ne_nil _ (h.ne x hx)
    obtain ⟨y, hy, e2⟩ := List.mem_map.1 (h.pm.mem_iff.1 (flat_mem.2 ⟨x, hx, rfl, hv⟩ : (x.rank, v) ∈ flatV l))
    exact ⟨y, hy, (congrArg Prod.fst e2).trans e⟩
  · rintro ⟨y, hy, e⟩
    obtain ⟨x, hx, h1, _⟩ := flat_mem.1 (h.pm.mem_iff.2 (List.mem_map.2 ⟨y, hy, rfl⟩))
    exact ⟨x, hx, h1.trans e⟩
theorem size_eq {l : List mvcc_row} (hn : (flatV l).length ≤ 1000000) (hl : l.length ≤ 1000000) : mvcc_Store_Size (some { rows := l }) = some (((flatV l).length : Nat) : Int) := by
  have h := loop_range (body := mvcc_Store_Size_l0 { rows := l }) (fun i => ((i : Int), (((flatV (l.take i)).length : Nat) : Int))) l.length (((flatV l).length : Nat) : Int) (fun i hi => by
    have hs : (flatV (l.take (i + 1))).length = (flatV (l.take i)).length + l[i].l.length := by
      rw [List.take_succ_eq_append_getElem hi]
      unfold flatV
      rw [List.flatMap_append, List.length_append]
      simp
    have hb : (flatV (l.take i)).length + l[i].l.length ≤ 1000000 := by
      rw [← hs]
      have h9 : flatV l = flatV (l.take (i + 1)) ++ flatV (l.drop (i + 1)) := by
        unfold flatV
        rw [← List.flatMap_append, List.take_append_drop]
      rw [h9, List.length_append] at hn
      omega
    simp only [mvcc_Store_Size_l0, lt_t hi, cond_true, geto_lt hi, Option.bind_some, wrap_succ (show i ≤ 4294967295 by omega), hs]
    rw [wrap_add (by omega)]) (by simp [mvcc_Store_Size_l0, inrO])
  simpa [mvcc_Store_Size, flatV] using h
theorem versions_eq {n : Nat} {l : List mvcc_row} {m : List ref11_Version} (h : Inv n l m) (hn : n ≤ 10000) {a : Nat} (ha : isF a) : mvcc_Store_Versions (some { rows := l }) a = some (rowV l (fRank a)) := by
  have hl := h.good.len
  simp only [mvcc_Store_Versions, rank_eq ha, Option.bind_some, find_eq h.rise (show l.length ≤ 1000000 by omega)]
  cases hh : hit rk (fRank a) l with
  | false =>
    have e3 : rowV l (fRank a) = [] := by
      unfold rowV
      have : rlook rk (fRank a) l = none := by simp [rlook, hh]
      rw [this]
    rw [e3]; rfl
  | true =>
    obtain ⟨hk, h3, h4⟩ := look_lt hh
    have e3 : rowV l (fRank a) = l[pl rk (fRank a) l].l := by unfold rowV; rw [h4]
    have hv := h.good.vl _ (List.getElem_mem hk)
    simp only [Bool.not_true, cond_false, geto_lt hk, Option.bind_some, slices_Clone_mvcc_Version_mvcc_Version]
    rw [gd_true (room_le (by simp only [List.length_nil]; omega)), ← e3]; rfl
theorem told_eq {n : Nat} {l : List mvcc_row} {m : List ref11_Version} (h : Inv n l m) (hn : n ≤ 10000) : law11_told (some { rows := l }) m = some true := by
  have hm := h.mlen
  obtain ⟨A, hA, gA⟩ := ats_eq (fun y hy => (h.xg y hy).1) (by omega)
  have hra := rows_ats h gA
  have hll : l.length = A.length := by have := congrArg List.length hra; simpa using this
  have hAl := gA.len
  have hsz := size_eq (l := l) (by rw [h.size]; omega) (by omega)
  rw [h.size] at hsz
  simp only [law11_told, hA, Option.bind_some, mvcc_Store_Len, hll, hsz]
  have b1 : (((A.length : Nat) : Int) != ((A.length : Nat) : Int)) = false := by simp
  have b2 : (((m.length : Nat) : Int) != ((m.length : Nat) : Int)) = false := by simp
  rw [b1, cond_false, b2, cond_false]
  refine loop_range (fun i => (i : Int)) A.length true (fun i hi => ?_) (by simp [law11_told_l0, inrO])
  have ha := gA.f _ (List.getElem_mem hi)
  have hL2 : loopO (law11_told_l2 A (i : Int) (some { rows := l }) m) (0:Int) = some (Sum.inl ()) := by
    refine loop_range (fun e => (e : Int)) 9 _ (fun e he => ?_) rfl
    obtain ⟨o, _, h1, h2⟩ := got_same h hn ha (e : Int)
    have e1 : decide ((e : Int) < (9:Int)) = true := by simp; omega
    have e2 : IntKind.u64.wrap ((e : Int) + (1:Int)) = ((e + 1 : Nat) : Int) := by rw [wrap_u64_eq]; omega
    simp only [law11_told_l2, e1, cond_true, geto_lt hi, Option.bind_some, h1, h2, one_got, Bool.not_true, law11_told_j3, cond_false, e2]
  simp only [law11_told_l0, lt_t hi, cond_true, hL2, join_inl, law11_told_j1, geto_lt hi, Option.bind_some, versions_eq h hn ha]
  have hrl := h.rowlen (fRank A[i])
  have hcount : loopO (law11_told_l5 m A[i]) ((0:Int), (0:Int)) = some (((rowV l (fRank A[i])).length : Nat) : Int) := by
    have hc := loop_range (body := law11_told_l5 m A[i]) (fun j => ((j : Int), (((Lm (fRank A[i]) (m.take j)).length : Nat) : Int))) m.length (((Lm (fRank A[i]) m).length : Nat) : Int) (fun j hj => by
      have hl2 : (Lm (fRank A[i]) (m.take j)).length ≤ j := by
        have := List.length_filter_le (fun y : ref11_Version => decide (fRank y.At = fRank A[i])) (m.take j)
        rw [List.length_take] at this
        simp only [Lm, List.length_map]; omega
      simp only [law11_told_l5, lt_t hj, cond_true, geto_lt hj, Option.bind_some, same_eq (h.xg _ (List.getElem_mem hj)).1 ha, wrap_succ (show j ≤ 4294967295 by omega), wrap_succ (show (Lm (fRank A[i]) (m.take j)).length ≤ 4294967295 by omega), List.take_succ_eq_append_getElem hj]
      have e : Lm (fRank A[i]) (m.take j ++ [m[j]]) = Lm (fRank A[i]) (m.take j) ++ Lm (fRank A[i]) [m[j]] := by simp only [Lm, List.filter_append, List.map_append]
      rw [e, List.length_append]
      by_cases hq : fRank m[j].At = fRank A[i]
      · simp [Lm, hq]
      · simp [Lm, hq]) (by simp [law11_told_l5, inrO])
    rw [(row_perm h (fRank A[i])).length_eq]
    simpa [Lm] using hc
  rw [hcount, Option.bind_some]
  have b3 : ((((rowV l (fRank A[i])).length : Nat) : Int) != (((rowV l (fRank A[i])).length : Nat) : Int)) = false := by simp
  simp only [law11_told_j4, b3, cond_false]
  have hvr := rowV_rise h.rise h.vr (fRank A[i])
  refine loop_range (fun j => ((j + 1 : Nat) : Int)) ((rowV l (fRank A[i])).length - 1) _ (fun j hj => ?_) ?_
  · have hj1 : j + 1 < (rowV l (fRank A[i])).length := by omega
    have hj0 : j < (rowV l (fRank A[i])).length := by omega
    have e2 : IntKind.i64.wrap (((j + 1 : Nat) : Int) - (1:Int)) = ((j : Nat) : Int) := by
      have := wrap_sub (a := j + 1) (b := 1) (by omega) (by omega)
      simpa using this
    have hlt := (vk_lt (h.rowg (List.getElem_mem hj0)).1 (h.rowg (List.getElem_mem hj1)).1).1 (hvr.lt hj0 hj1 (by omega))
    simp only [law11_told_l6, lt_t hj1, cond_true, e2, geto_lt hj0, geto_lt hj1, Option.bind_some, wrap_succ (show j + 1 ≤ 4294967295 by omega)]
    by_cases q1 : (rowV l (fRank A[i]))[j].Epoch = (rowV l (fRank A[i]))[j + 1].Epoch
    · have q2 : ¬ (rowV l (fRank A[i]))[j].Index ≥ (rowV l (fRank A[i]))[j + 1].Index := by omega
      simp [q1, q2]
    · have q2 : ¬ (rowV l (fRank A[i]))[j].Epoch > (rowV l (fRank A[i]))[j + 1].Epoch := by omega
      have q3 : ((rowV l (fRank A[i]))[j].Epoch == (rowV l (fRank A[i]))[j + 1].Epoch) = false := by simpa using q1
      simp [q2, q3]
  · have e : decide ((((rowV l (fRank A[i])).length - 1 + 1 : Nat) : Int) < (((rowV l (fRank A[i])).length : Nat) : Int)) = false := by simp; omega
    simp only [law11_told_l6, e, cond_false, inrO, Option.map_some, wrap_succ (show i ≤ 4294967295 by omega)]
/-! ### The statements' own -/
def verG (x : law11_Ver) : Prop := isU8 x.At ∧ isF x.X ∧ isU8 x.E ∧ isU8 x.I ∧ U8s x.V
theorem at_eq {x : law11_Ver} (g : verG x) : ∃ a, law11_at x = some a ∧ isF a := by
  obtain ⟨⟨h0, h1⟩, h2, _⟩ := g
  unfold law11_at
  by_cases h : Int.tmod x.At 6 < 4
  · have ht : decide (Int.tmod x.At 6 < 4) = true := by simpa using h
    rw [ht, cond_true]
    rw [Int.tmod_eq_emod_of_nonneg h0] at h ⊢
    have h3 : x.At % 6 = 0 ∨ x.At % 6 = 1 ∨ x.At % 6 = 2 ∨ x.At % 6 = 3 := by omega
    rcases h3 with h3 | h3 | h3 | h3 <;> rw [h3]
    · exact ⟨0, rfl, by unfold isF; omega⟩
    · exact ⟨4607182418800017408, rfl, by unfold isF; omega⟩
    · exact ⟨13830554455654793216, rfl, by unfold isF; omega⟩
    · exact ⟨4602678819172646912, rfl, by unfold isF; omega⟩
  · have ht : decide (Int.tmod x.At 6 < 4) = false := by simpa using h
    rw [ht, cond_false]
    exact ⟨x.X, rfl, h2⟩
def xOf (a : Nat) (x : law11_Ver) : ref11_Version := { At := a, Epoch := IntKind.u64.wrap (Int.tmod x.E 8), Index := IntKind.u64.wrap (Int.tmod x.I 5), Del := x.Del, Val := x.V }
theorem xOf_good {x : law11_Ver} (g : verG x) {a : Nat} (ha : isF a) (hv : x.V.length ≤ 100) : xG (xOf a x) := by
  obtain ⟨_, _, ⟨e0, e1⟩, ⟨i0, i1⟩, hu⟩ := g
  refine ⟨ha, ?_, by show x.V.length ≤ _; omega, hu⟩
  unfold vG ver xOf
  dsimp only
  rw [wrap_u64_eq, wrap_u64_eq, Int.tmod_eq_emod_of_nonneg e0, Int.tmod_eq_emod_of_nonneg i0]
  omega
theorem inv_nil : Inv 0 [] [] := ⟨rise_nil, fun x h => (by cases h), fun x h => (by cases h), List.Perm.refl _, fun x h => (by cases h), fun x h => (by cases h), by simp, by simp⟩
theorem Inv.up {n k : Nat} {l : List mvcc_row} {m : List ref11_Version} (h : Inv n l m) (hk : n ≤ k) : Inv k l m := ⟨h.rise, h.ne, h.vr, h.pm, h.xg, h.cl, h.nd, Nat.le_trans h.mlen hk⟩
theorem fill_eq {a : List law11_Ver} (ha : ∀ x ∈ a, verG x) : ∃ s m ok, law11_fill a = some (s, m, ok) ∧ (ok = true → Inv 60 s.rows m) := by
  unfold law11_fill
  simp only [mvcc_New, Option.bind_some]
  by_cases hl : ((a.length : Int)) > 60
  · have : decide (((a.length : Nat) : Int) > (60:Int)) = true := by simpa using hl
    rw [this, cond_true]
    exact ⟨_, _, _, rfl, fun h => by cases h⟩
  · have : decide (((a.length : Nat) : Int) > (60:Int)) = false := by simpa using hl
    rw [this, cond_false]
    obtain ⟨r, h1, h2⟩ := loop_inv (body := law11_fill_l1 a) (Inv := fun s => ∃ i : Nat, s.2.2 = (i : Int) ∧ i ≤ a.length ∧ Inv i s.1.rows s.2.1) (m := fun s => (a.length - s.2.2).toNat)
      (Q := fun r => match r with | .inl s => Inv 60 s.1.rows s.2 | .inr t => t.2.2 = false) (fun s hs => by
        obtain ⟨s, m, z⟩ := s
        obtain ⟨i, rfl, hi, hI⟩ := hs
        dsimp only at hI
        by_cases hil : i < a.length
        · have g := ha _ (List.getElem_mem hil)
          by_cases hv : a[i].V.length ≤ 100
          · left
            have hd : decide (((a[i].V.length : Nat) : Int) > (100:Int)) = false := by simp; omega
            obtain ⟨x, hx, hF⟩ := at_eq g
            have gx := xOf_good g hF hv
            obtain ⟨p1, m', p2, p3⟩ := inv_put hI (by omega) gx
            have p1' : mvcc_Store_Put (some s) x (ver (xOf x a[i])) = _ := p1
            simp only [law11_fill_l1, lt_t hil, cond_true, geto_lt hil, Option.bind_some, hd, cond_false, hx, law11_fill_j2]
            rw [show ({ Epoch := (IntKind.u64.wrap (Int.tmod a[i].E (8:Int))), Index := (IntKind.u64.wrap (Int.tmod a[i].I (5:Int))), Del := a[i].Del, Val := a[i].V } : mvcc_Version) = ver (xOf x a[i]) from rfl, p1', Option.bind_some]
            dsimp only
            rw [show ({ At := x, Epoch := (IntKind.u64.wrap (Int.tmod a[i].E (8:Int))), Index := (IntKind.u64.wrap (Int.tmod a[i].I (5:Int))), Del := a[i].Del, Val := a[i].V } : ref11_Version) = xOf x a[i] from rfl, p2, Option.bind_some, wrap_succ (show i ≤ 4294967295 by omega)]
            exact ⟨_, rfl, ⟨i + 1, rfl, by omega, p3⟩, by dsimp only; omega⟩
          · right
            have hd : decide (((a[i].V.length : Nat) : Int) > (100:Int)) = true := by simp; omega
            simp only [law11_fill_l1, lt_t hil, cond_true, geto_lt hil, Option.bind_some, hd, inrO, Option.map_some]
            exact ⟨_, rfl, rfl⟩
        · right
          have e1 : i = a.length := by omega
          subst e1
          refine ⟨Sum.inl (s, m), by simp [law11_fill_l1, inrO], ?_⟩
          exact hI.up (by omega)) (s := (({ rows := [] } : mvcc_Store), ([] : List ref11_Version), (0:Int))) ⟨0, rfl, Nat.zero_le _, inv_nil⟩
    rw [h1]
    rcases r with ⟨s, m⟩ | ⟨s, m, ok⟩
    · exact ⟨s, m, true, rfl, fun _ => h2⟩
    · exact ⟨s, m, ok, rfl, fun h => by rw [show ok = false from h2] at h; cases h⟩
theorem get_is {n : Nat} {l : List mvcc_row} {m : List ref11_Version} (h : Inv n l m) (hn : n ≤ 10000) {a : Nat} (ha : isF a) {e : Int} {o : Option mvcc_Version} (ho : isTop (Lm (fRank a) m) e o) : mvcc_Store_Get (some { rows := l }) a e = some (gotOf o) := by
  obtain ⟨p, h1, h2, _⟩ := got_same h hn ha e
  rw [h2, top_one (rowV_rise h.rise h.vr _) (row_perm h _) h1 ho]
theorem mv_awake : law11_awake = some true := by
  have gx1 : xG { At := 4607182418800017408, Epoch := 2, Index := 0, Del := false, Val := [97] } := ⟨by unfold isF; decide, by unfold vG ver; decide, by decide, by intro y hy; simp at hy; subst hy; exact ⟨by decide, by decide⟩⟩
  have gx2 : xG { At := 4607182418800017408, Epoch := 3, Index := 0, Del := true, Val := [] } := ⟨by unfold isF; decide, by unfold vG ver; decide, by decide, by intro y hy; cases hy⟩
  obtain ⟨p1, m1, q1, i1⟩ := inv_put inv_nil (by omega) gx1
  obtain ⟨p2, m2, q2, i2⟩ := inv_put i1 (by omega) gx2
  have e1 : m1 = [{ At := 4607182418800017408, Epoch := 2, Index := 0, Del := false, Val := [97] }] := by
    have := refput_eq (m := []) (fun y h => by cases h) gx1.1 (by simp) (fun y h => by cases h) gx1.2.1
    rw [q1] at this
    exact some_inj this
  subst e1
  have e2 : m2 = [{ At := 4607182418800017408, Epoch := 2, Index := 0, Del := false, Val := [97] }, { At := 4607182418800017408, Epoch := 3, Index := 0, Del := true, Val := [] }] := by
    have := refput_eq (fun y hy => (i1.xg y hy).1) gx2.1 (by simp) (fun y hy => (i1.xg y hy).2.1) gx2.2.1
    rw [q2] at this
    have := some_inj this
    rw [this]
    simp [notK, ky, tagV, ver, vk, clx]
  subst e2
  have hF : isF 4607182418800017408 := by unfold isF; omega
  have g1 := get_is i2 (by omega) hF (e := 2) (o := some { Epoch := 2, Index := 0, Del := false, Val := [97] }) (by simp [isTop, Lm, ver, vk])
  have g2 := get_is i2 (by omega) hF (e := 3) (o := some { Epoch := 3, Index := 0, Del := true, Val := [] }) (by simp [isTop, Lm, ver, vk])
  have hz := size_eq (l := putS (putS [] (fRank 4607182418800017408) (clr (ver { At := 4607182418800017408, Epoch := 2, Index := 0, Del := false, Val := [97] }))) (fRank 4607182418800017408) (clr (ver { At := 4607182418800017408, Epoch := 3, Index := 0, Del := true, Val := [] }))) (Nat.le_trans (Nat.le_of_eq i2.size) (by decide)) (Nat.le_trans i2.good.len (by decide))
  rw [show (flatV _).length = 2 from i2.size] at hz
  simp only [law11_awake, mvcc_New, Option.bind_some]
  rw [show ({ Epoch := (2:Int), Index := (0:Int), Del := false, Val := [(97:Int)] } : mvcc_Version) = ver { At := 4607182418800017408, Epoch := 2, Index := 0, Del := false, Val := [97] } from rfl, p1, Option.bind_some]
  dsimp only
  rw [show ({ Epoch := (3:Int), Index := (0:Int), Del := true, Val := [] } : mvcc_Version) = ver { At := 4607182418800017408, Epoch := 3, Index := 0, Del := true, Val := [] } from rfl, p2, Option.bind_some]
  dsimp only
  rw [g1, Option.bind_some]
  have hs : sEq (toStr (gotOf (some { Epoch := 2, Index := 0, Del := false, Val := [97] })).Val) (ByteArray.mk #[97]) = true := by decide +kernel
  rw [hs, cond_true, g2, Option.bind_some, hz]
  rfl
end Go.Proofs.Ytbdnbohbmgmonaa
