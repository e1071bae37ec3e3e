/- What stands within some numbers; plainly. -/
import Derived.Test.YtgnkkopjkgdieaaGreatLaneReadsMxC
set_option linter.unusedVariables false
set_option linter.unusedSimpArgs false
set_option maxRecDepth 100000
namespace Go.Proofs.YtgnkkopjkgdieaaGreat
open Go Go.V
theorem range_cut {q : Nat → Bool} {i n : Nat} (h : i ≤ n) : ∃ t, (List.range n).filter q = (List.range i).filter q ++ t ∧ ((∀ j, i ≤ j → j < n → q j = false) → t = []) := by
  obtain ⟨k, rfl⟩ := Nat.exists_eq_add_of_le h
  refine ⟨((List.range k).map (i + ·)).filter q, by rw [List.range_add, List.filter_append], fun hq => List.filter_eq_nil_iff.2 fun j hj => ?_⟩
  obtain ⟨x, hx, rfl⟩ := List.mem_map.1 hj
  rw [hq (i + x) (by omega) (by have := List.mem_range.1 hx; omega)]
  simp
theorem loop_take {β : Type} {body : List β × Int → Option ((List β × Int) ⊕ List β)} (n p M : Nat) (q : Nat → Bool) (f : Nat → β) (stp : Nat → Bool) (hp : p ≤ n) (hq0 : ∀ j, j < p → q j = false)
    (h1 : ∀ (i : Nat), i < n → p ≤ i → ∀ out : List β, out.length ≤ i → body (out, (i : Int)) = some (bif stp i then .inr out else bif decide (out.length < M) then .inl (bif q i then out ++ [f i] else out, ((i + 1 : Nat) : Int)) else .inr out))
    (hs : ∀ i, i < n → stp i = true → ∀ j, i ≤ j → j < n → q j = false)
    (h2 : ∀ out : List β, body (out, (n : Int)) = some (.inr out)) : loopO body ([], (p : Int)) = some ((((List.range n).filter q).take M).map f) := by
  obtain ⟨r, h3, h4⟩ := loop_inv (body := body) (Inv := fun s => ∃ i : Nat, s.2 = (i : Int) ∧ i ≤ n ∧ p ≤ i ∧ s.1 = (((List.range i).filter q).take M).map f) (m := fun s => (n - s.2).toNat) (Q := fun r => r = (((List.range n).filter q).take M).map f) (fun s hs' => by
    obtain ⟨out, z⟩ := s
    obtain ⟨i, rfl, hi, hpi, ho⟩ := hs'
    dsimp only at ho
    subst ho
    have hlen : ((((List.range i).filter q).take M).map f).length ≤ i := by
      have := List.length_filter_le q (List.range i)
      rw [List.length_range] at this
      rw [List.length_map, List.length_take]; omega
    by_cases hin : i < n
    · rw [h1 i hin hpi _ hlen]
      cases hst : stp i with
      | true =>
        right
        obtain ⟨t, ht, ht0⟩ := range_cut (q := q) hi
        exact ⟨_, rfl, by rw [ht, ht0 (hs i hin hst), List.append_nil]⟩
      | false =>
        by_cases hM : ((((List.range i).filter q).take M).map f).length < M
        · left
          rw [cond_false, decide_eq_true hM, cond_true]
          refine ⟨_, rfl, ⟨i + 1, rfl, by omega, by omega, ?_⟩, by dsimp only; omega⟩
          have hl : ((List.range i).filter q).length < M := by
            rw [List.length_map, List.length_take] at hM; omega
          dsimp only
          rw [List.range_succ, List.filter_append, List.take_of_length_le (show ((List.range i).filter q).length ≤ M by omega)]
          cases hqi : q i with
          | true =>
            have e : [i].filter q = [i] := by simp [hqi]
            rw [e, List.take_of_length_le (by rw [List.length_append, List.length_singleton]; omega), List.map_append]; rfl
          | false =>
            have e : [i].filter q = [] := by simp [hqi]
            rw [e, List.append_nil, List.take_of_length_le (by omega)]; rfl
        · right
          rw [cond_false, decide_eq_false hM, cond_false]
          refine ⟨_, rfl, ?_⟩
          obtain ⟨t, ht, _⟩ := range_cut (q := q) hi
          rw [ht, List.take_append_of_le_length]
          rw [List.length_map, List.length_take] at hM; omega
    · have e : i = n := by omega
      subst e
      exact .inr ⟨_, h2 _, rfl⟩) (s := (([] : List β), (p : Int))) ⟨p, rfl, hp, Nat.le_refl _, by
        have : (List.range p).filter q = [] := List.filter_eq_nil_iff.2 fun j hj => by rw [hq0 j (List.mem_range.1 hj)]; simp
        rw [this]; simp⟩
  rw [h3, h4]
theorem row_is {l : List mvcc_row} (hr : Rise rk l) {x : mvcc_row} (hx : x ∈ l) : rowV l x.rank = x.l := by
  unfold rowV
  rw [show rlook rk x.rank l = some x from (look_some hr).2 ⟨hx, rfl⟩]
theorem back_to {x : Nat} (hx : isF x) : ∃ f, number_Back (fRank x) = some f ∧ isF f ∧ fRank f = fRank x := by
  cases hn : fNaN x with
  | false => exact ⟨x, back_rank hx hn, hx, rfl⟩
  | true =>
    have e : fRank x = ((18446744073709551615 : Nat) : Int) := by unfold fRank; rw [hn]; rfl
    refine ⟨9223372036854775807, ?_, by unfold isF; decide, ?_⟩
    · rw [e, back_eq (by decide)]; rfl
    · rw [e]; decide
theorem within_eq {a lo hi : Nat} (ha : isF a) (h1 : isF lo) (h2 : isF hi) : ref01_Within a lo hi = some (decide (fRank lo ≤ fRank a) && decide (fRank a ≤ fRank hi)) := by
  unfold ref01_Within
  rw [ahead_eq ha h1, ahead_eq h2 ha]
  by_cases c1 : fRank a < fRank lo
  · have c2 : ¬ fRank lo ≤ fRank a := by omega
    simp [c1, c2]
  · have c2 : fRank lo ≤ fRank a := by omega
    by_cases c3 : fRank hi < fRank a
    · have c4 : ¬ fRank a ≤ fRank hi := by omega
      simp [c1, c2, c3, c4]
    · have c4 : fRank a ≤ fRank hi := by omega
      simp [c1, c2, c3, c4]
theorem pairs_true {a b : List api_Pair} (hl : a.length = b.length) (hn : a.length ≤ 1000000) (h : ∀ i (ha : i < a.length) (hb : i < b.length), isF a[i].At ∧ isF b[i].At ∧ fRank a[i].At = fRank b[i].At ∧ a[i].Val = b[i].Val) : ref11_SamePairs a b = some true := by
  have e : (((a.length : Nat) : Int) != ((b.length : Nat) : Int)) = false := by simp [hl]
  unfold ref11_SamePairs
  rw [e, cond_false]
  refine loop_range (fun i => (i : Int)) a.length true (fun i hi => ?_) (by simp [ref11_SamePairs_l0, inrO])
  have hb : i < b.length := by omega
  obtain ⟨f1, f2, f3, f4⟩ := h i hi hb
  simp only [ref11_SamePairs_l0, lt_t hi, cond_true, geto_lt hi, geto_lt hb, Option.bind_some, same_eq f1 f2, f3, decide_true, Bool.not_true, cond_false, f4, toStr_refl, wrap_succ (show i ≤ 4294967295 by omega)]
noncomputable def gotI (m : List ref11_Version) (A : List Nat) (e : Int) (i : Nat) : api_Got := (ref11_Get m ((A[i]?).getD 0) e).getD { Has := false, Val := [] }
theorem scan_same {n : Nat} {l : List mvcc_row} {m : List ref11_Version} (h : Inv n l m) (hn : n ≤ 10000) {lo hi : Nat} (hlo : isF lo) (hhi : isF hi) (e most : Int) :
    ∃ P Q, mvcc_Store_Scan (some { rows := l }) lo hi e most = some P ∧ ref11_Scan m lo hi e most = some Q ∧ ref11_SamePairs P Q = some true := by
  have hm := h.mlen
  have g := h.good
  have hln := g.len
  obtain ⟨A, hA, gA⟩ := ats_eq (fun y hy => (h.xg y hy).1) (show m.length ≤ 1000000 by omega)
  have hra := rows_ats h gA
  have hll : l.length = A.length := by have := congrArg List.length hra; simpa using this
  have hrank : ∀ i (h1 : i < l.length) (h2 : i < A.length), l[i].rank = fRank A[i] := fun i h1 h2 => by
    have := congrArg (fun t => t[i]?) hra
    simp only [List.getElem?_map, List.getElem?_eq_getElem h1, List.getElem?_eq_getElem h2, Option.map_some] at this
    exact some_inj this
  have hgot : ∀ i (h1 : i < l.length) (h2 : i < A.length), ref11_Get m A[i] e = some (gotI m A e i) ∧ mvcc_read l[i].l e = some (gotI m A e i) := fun i h1 h2 => by
    have hF := gA.f _ (List.getElem_mem h2)
    obtain ⟨o, q1, _, q3⟩ := got_same h hn hF e
    have hm1 := List.getElem_mem h1
    have hrow : rowV l (fRank A[i]) = l[i].l := by rw [← hrank i h1 h2]; exact row_is h.rise hm1
    rw [hrow] at q1
    obtain ⟨p, r1, r2⟩ := read_eq e (g.vr _ hm1) (g.vg _ hm1) (by have := g.vl _ hm1; omega) (fun v hv => by
      have := (h.rowg (r := l[i].rank) (by rw [row_is h.rise hm1]; exact hv)).2.1; omega)
    have hop : o = p := top_one (g.vr _ hm1) (List.Perm.refl _) q1 r1
    subst hop
    have hgi : gotI m A e i = gotOf o := by unfold gotI; rw [List.getElem?_eq_getElem h2, Option.getD_some, q3, Option.getD_some]
    rw [hgi]; exact ⟨q3, r2⟩
  let q : Nat → Bool := fun i => (gotI m A e i).Has && (decide (fRank lo ≤ fRank ((A[i]?).getD 0)) && decide (fRank ((A[i]?).getD 0) ≤ fRank hi))
  let fS : Nat → api_Pair := fun i => { At := (number_Back (fRank ((A[i]?).getD 0))).getD 0, Val := (gotI m A e i).Val }
  let fR : Nat → api_Pair := fun i => { At := (A[i]?).getD 0, Val := (gotI m A e i).Val }
  have hR : loopO (ref11_Scan_l0 A most m e lo hi) ([], (0:Int)) = some ((((List.range A.length).filter q).take most.toNat).map fR) := by
    refine loop_take A.length 0 most.toNat q fR (fun _ => false) (Nat.zero_le _) (fun j h => by omega) (fun i hi' _ out ho => ?_) (fun i _ h => by cases h) (fun out => by simp [ref11_Scan_l0, inrO])
    have hF := gA.f _ (List.getElem_mem hi')
    have e0 : (A[i]?).getD 0 = A[i] := by rw [List.getElem?_eq_getElem hi', Option.getD_some]
    have em : decide (((out.length : Nat) : Int) < most) = decide (out.length < most.toNat) := by
      rw [Bool.eq_iff_iff]; simp only [decide_eq_true_eq]; omega
    simp only [ref11_Scan_l0, lt_t hi', cond_true, em, cond_false, geto_lt hi', Option.bind_some, (hgot i (by omega) hi').1, within_eq hF hlo hhi, wrap_succ (show i ≤ 4294967295 by omega), q, fR, e0]
    cases decide (out.length < most.toNat) with
    | false => simp [inrO]
    | true =>
      simp only [cond_true]
      cases (gotI m A e i).Has with
      | false => simp
      | true =>
        simp only [cond_true, Bool.true_and]
        cases decide (fRank lo ≤ fRank A[i]) && decide (fRank A[i] ≤ fRank hi) with
        | false => rfl
        | true =>
          simp only [cond_true]
          rw [gd_true (room_one (by omega))]
  have hS : loopO (mvcc_Store_Scan_l0 { rows := l } hi most e) ([], ((pl rk (fRank lo) l : Nat) : Int)) = some ((((List.range A.length).filter q).take most.toNat).map fS) := by
    refine loop_take A.length (pl rk (fRank lo) l) most.toNat q fS (fun i => !(decide (fRank ((A[i]?).getD 0) ≤ fRank hi))) (by rw [← hll]; exact pl_le _ _ _) (fun j hj => ?_) (fun i hi' hpi out ho => ?_) (fun i hi' hst j hij hj => ?_) (fun out => by simp [mvcc_Store_Scan_l0, inrO, hll])
    · have hjl : j < l.length := Nat.lt_of_lt_of_le hj (pl_le _ _ _)
      have h1 : rk l[j] < fRank lo := pl_lt hjl hj
      have e0 : (A[j]?).getD 0 = A[j]'(by omega) := by rw [List.getElem?_eq_getElem (by omega), Option.getD_some]
      have h2 : ¬ fRank lo ≤ fRank (A[j]'(by omega)) := by rw [← hrank j hjl (by omega)]; exact Int.not_le.2 h1
      simp only [q, e0, decide_eq_false h2, Bool.false_and, Bool.and_false]
    · have hil : i < l.length := by omega
      have hF := gA.f _ (List.getElem_mem hi')
      have e0 : (A[i]?).getD 0 = A[i] := by rw [List.getElem?_eq_getElem hi', Option.getD_some]
      have em : decide (((out.length : Nat) : Int) < most) = decide (out.length < most.toNat) := by
        rw [Bool.eq_iff_iff]; simp only [decide_eq_true_eq]; omega
      obtain ⟨f, b1, b2, b3⟩ := back_to hF
      simp only [mvcc_Store_Scan_l0, lt_t hil, cond_true, em, geto_lt hil, Option.bind_some, rank_eq hhi, hrank i hil hi', (hgot i hil hi').2, b1, wrap_succ (show i ≤ 4294967295 by omega), q, fS, e0, Option.getD_some]
      have h1 : fRank lo ≤ fRank A[i] := by rw [← hrank i hil hi']; exact pl_ge (s := fRank lo) h.rise hil hpi
      by_cases h2 : fRank A[i] ≤ fRank hi
      · simp only [decide_eq_true h1, decide_eq_true h2, cond_true, Bool.not_true, cond_false, Bool.and_true]
        cases decide (out.length < most.toNat) with
        | false => simp [inrO]
        | true =>
          simp only [cond_true]
          cases (gotI m A e i).Has with
          | false => simp
          | true =>
            simp only [cond_true]
            rw [gd_true (room_one (by omega))]
      · simp only [decide_eq_false h2, cond_false, Bool.not_false, cond_true, inrO, Option.map_some]
    · have e0 : (A[i]?).getD 0 = A[i] := by rw [List.getElem?_eq_getElem hi', Option.getD_some]
      have e1 : (A[j]?).getD 0 = A[j] := by rw [List.getElem?_eq_getElem hj, Option.getD_some]
      rw [e0] at hst
      have h2 : ¬ fRank A[i] ≤ fRank hi := by simpa using hst
      have h3 : ¬ fRank A[j] ≤ fRank hi := by
        rcases Nat.eq_or_lt_of_le hij with hq | hq
        · subst hq; exact h2
        · have := gA.rise.lt hi' hj hq; omega
      simp only [q, e1, decide_eq_false h3, Bool.and_false]
  have hlen : (((List.range A.length).filter q).take most.toNat).length ≤ 1000000 := by
    have := List.length_filter_le q (List.range A.length)
    rw [List.length_range] at this
    have := gA.len
    rw [List.length_take]; omega
  refine ⟨_, _, ?_, ?_, pairs_true (a := (((List.range A.length).filter q).take most.toNat).map fS) (b := (((List.range A.length).filter q).take most.toNat).map fR) (by rw [List.length_map, List.length_map]) (by rw [List.length_map]; exact hlen) fun i ha hb => ?_⟩
  · simp only [mvcc_Store_Scan, rank_eq hlo, Option.bind_some, m_find_eq h.rise (show l.length ≤ 1000000 by omega), hS]
  · simp only [ref11_Scan, hA, Option.bind_some, hR]
  · rw [List.getElem_map, List.getElem_map]
    rw [List.length_map] at ha
    have hmem := List.getElem_mem ha
    generalize (((List.range A.length).filter q).take most.toNat)[i] = j at hmem ⊢
    have hj : j < A.length := List.mem_range.1 (List.mem_filter.1 (List.mem_of_mem_take hmem)).1
    have hF := gA.f _ (List.getElem_mem hj)
    obtain ⟨f, b1, b2, b3⟩ := back_to hF
    have e1 : (A[j]?).getD 0 = A[j] := by rw [List.getElem?_eq_getElem hj, Option.getD_some]
    simp only [fS, fR, e1, b1, Option.getD_some]
    exact ⟨b2, hF, b3, trivial⟩
end Go.Proofs.YtgnkkopjkgdieaaGreat
