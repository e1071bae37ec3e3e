/- The last answers of sessions: an answer is put, and looked for; plainly. -/
import Derived.Test.YtgnkkopjkgdieaaGreatLaneQuotasSesT
set_option linter.unusedVariables false
set_option linter.unusedSimpArgs false
set_option maxRecDepth 100000
namespace Go.Proofs.YtgnkkopjkgdieaaGreat
open Go Go.V
theorem join_inl {S R : Type} (x : S) (f : S → Option R) : joinO (some (Sum.inl x)) f = f x := rfl
/-- The row of a session. -/
def look (s : Int) (l : List session_row) : Option session_row := bif hit s l then l[pl s l]? else none
theorem look_lt {s : Int} {l : List session_row} (h : hit s l = true) : ∃ hk : pl s l < l.length, l[pl s l].session = s ∧ look s l = some l[pl s l] := by
  unfold look
  rw [h, cond_true]
  unfold hit at h
  cases e : l[pl s l]? with
  | none => rw [e] at h; cases h
  | some x =>
    rw [e] at h
    obtain ⟨hk, hx⟩ := List.getElem?_eq_some_iff.1 e
    exact ⟨hk, by rw [hx]; exact eq_of_beq h, by rw [hx]⟩
theorem look_some {s : Int} {l : List session_row} (hr : Rise l) {x : session_row} : look s l = some x ↔ x ∈ l ∧ x.session = s := by
  constructor
  · intro h
    cases hh : hit s l with
    | false => simp [look, hh] at h
    | true =>
      obtain ⟨hk, h1, h2⟩ := look_lt hh
      rw [h2] at h
      cases h
      exact ⟨List.getElem_mem hk, h1⟩
  · rintro ⟨hx, hs⟩
    obtain ⟨a, ha, rfl⟩ := List.mem_iff_getElem.1 hx
    have h1 : pl s l ≤ a := by
      rcases Nat.lt_or_ge a (pl s l) with h | h
      · have := pl_lt ha h; omega
      · exact h
    have hk : pl s l < l.length := by omega
    have h2 : a = pl s l := by
      rcases Nat.eq_or_lt_of_le h1 with h | h
      · exact h.symm
      · have h3 := hr.lt hk ha h
        have h4 := pl_ge hr hk (Nat.le_refl (pl s l))
        omega
    subst h2
    have hh : hit s l = true := by
      unfold hit
      rw [List.getElem?_eq_getElem hk]
      simpa using hs
    unfold look
    rw [hh, cond_true, List.getElem?_eq_getElem hk]
theorem look_none {s : Int} {l : List session_row} (hr : Rise l) : look s l = none ↔ ∀ x ∈ l, x.session ≠ s := by
  constructor
  · intro h x hx hs
    rw [(look_some hr).2 ⟨hx, hs⟩] at h; cases h
  · intro h
    cases e : look s l with
    | none => rfl
    | some x => exact absurd ((look_some hr).1 e).2 (h x ((look_some hr).1 e).1)
def rw_ (s q : Int) (r : api_Reply) : session_row := { session := s, seq := q, r := r }
/-- Where the rest begins. -/
def pr (s : Int) (l : List session_row) : Nat := bif hit s l then pl s l + 1 else pl s l
def putL (l : List session_row) (x : session_row) : List session_row := l.take (pl x.session l) ++ x :: l.drop (pr x.session l)
theorem take_lt {s : Int} {l : List session_row} : ∀ x ∈ l.take (pl s l), x.session < s := by
  intro x hx
  obtain ⟨a, ha, rfl⟩ := List.mem_iff_getElem.1 hx
  rw [List.getElem_take]
  rw [List.length_take] at ha
  exact pl_lt (by omega) (by omega)
theorem drop_gt {s : Int} {l : List session_row} (hr : Rise l) : ∀ x ∈ l.drop (pr s l), s < x.session := by
  intro x hx
  obtain ⟨a, ha, rfl⟩ := List.mem_iff_getElem.1 hx
  rw [List.length_drop] at ha
  rw [List.getElem_drop]
  have hlt : pr s l + a < l.length := by omega
  cases hh : hit s l with
  | true =>
    obtain ⟨hk, h1, h2⟩ := look_lt hh
    have e : pr s l = pl s l + 1 := by simp [pr, hh]
    have := hr.lt hk hlt (by omega)
    omega
  | false =>
    have e : pr s l = pl s l := by simp [pr, hh]
    have h1 := pl_ge (s := s) hr hlt (by omega)
    have h2 : l[pr s l + a].session ≠ s := fun h => by
      have : look s l = none := by simp [look, hh]
      exact (look_none hr).1 this _ (List.getElem_mem hlt) h
    omega
theorem putL_rise {l : List session_row} (hr : Rise l) (x : session_row) : Rise (putL l x) := by
  have h1 : Rise (l.take (pl x.session l)) := List.Pairwise.sublist (List.take_sublist _ _) hr
  have h2 : Rise (l.drop (pr x.session l)) := List.Pairwise.sublist (List.drop_sublist _ _) hr
  refine List.pairwise_append.2 ⟨h1, List.pairwise_cons.2 ⟨drop_gt hr, h2⟩, fun a ha b hb => ?_⟩
  have h3 := take_lt a ha
  rcases List.mem_cons.1 hb with rfl | hb
  · exact h3
  · have := drop_gt hr b hb; omega
theorem filter_rest {s : Int} {l : List session_row} (hr : Rise l) : l.filter (fun x => x.session != s) = l.take (pl s l) ++ l.drop (pr s l) := by
  have h1 : (l.take (pl s l)).filter (fun x => x.session != s) = l.take (pl s l) := List.filter_eq_self.2 fun x hx => by have := take_lt x hx; simp; omega
  have h2 : (l.drop (pr s l)).filter (fun x => x.session != s) = l.drop (pr s l) := List.filter_eq_self.2 fun x hx => by have := drop_gt hr x hx; simp; omega
  cases hh : hit s l with
  | false =>
    have e : pr s l = pl s l := by simp [pr, hh]
    rw [e] at h2 ⊢
    conv => lhs; rw [← List.take_append_drop (pl s l) l]
    rw [List.filter_append, h1, h2]
  | true =>
    obtain ⟨hk, h3, h4⟩ := look_lt hh
    have e : pr s l = pl s l + 1 := by simp [pr, hh]
    rw [e] at h2 ⊢
    conv => lhs; rw [← List.take_append_drop (pl s l) l]
    rw [List.filter_append, h1, List.drop_eq_getElem_cons hk, List.filter_cons, h2]
    simp [h3]
theorem putL_perm {l : List session_row} (hr : Rise l) (x : session_row) : (putL l x).Perm (x :: l.filter (fun y => y.session != x.session)) := by
  rw [filter_rest hr]
  exact List.perm_middle
theorem putL_len {l : List session_row} (hr : Rise l) (x : session_row) : (putL l x).length ≤ l.length + 1 := by
  rw [(putL_perm hr x).length_eq, List.length_cons]
  have := List.length_filter_le (fun y : session_row => y.session != x.session) l
  omega
/-- The number that stands with a session. -/
def seqOf (s : Int) (l : List session_row) : Int := match look s l with | some x => x.seq | none => 0
theorem put_eq {l : List session_row} (h : Rise l) (hn : l.length ≤ 999999) (s q : Int) (r : api_Reply) (hq : 0 ≤ q) : session_Table_Put (some { l := l }) s q r =
    some (if q = 0 then (1, some { l := l }) else if seqOf s l ≥ q then (10, some { l := l }) else (0, some { l := putL l (rw_ s q r) })) := by
  unfold session_Table_Put
  dsimp only
  by_cases h0 : q = 0
  · subst h0; rfl
  have e0 : (q == (0:Int)) = false := by simpa using h0
  rw [e0, cond_false, find_eq h (by omega), Option.bind_some, if_neg h0]
  dsimp only
  cases hh : hit s l with
  | true =>
    obtain ⟨hk, h3, h4⟩ := look_lt hh
    have e1 : seqOf s l = l[pl s l].seq := by simp [seqOf, h4]
    simp only [cond_true, geto_lt hk, Option.bind_some, e1]
    by_cases h5 : l[pl s l].seq ≥ q
    · rw [if_pos h5, decide_eq_true h5]; rfl
    · rw [if_neg h5, decide_eq_false h5, cond_false, join_inl]
      simp only [session_Table_Put_j0, Bool.not_true, cond_false, Option.bind_some, session_Table_Put_j1, geto_lt hk, Int.toNat_natCast, List.set_set]
      have e2 : pr s l = pl s l + 1 := by simp [pr, hh]
      have : l.set (pl s l) (rw_ s q r) = putL l (rw_ s q r) := by
        unfold putL
        rw [show (rw_ s q r).session = s from rfl, e2, List.set_eq_take_append_cons_drop, if_pos hk]
      rw [h3, ← this]; rfl
  | false =>
    have e1 : seqOf s l = 0 := by simp [seqOf, look, hh]
    have h5 : ¬ (0:Int) ≥ q := by omega
    rw [e1, if_neg h5, cond_false, join_inl]
    have hle := pl_le s l
    have hok : insOK l ((pl s l : Nat) : Int) [({ session := s, seq := (0:Int), r := zero_api_Reply } : session_row)] = true := by
      simp only [insOK, room, List.length_cons, List.length_nil]
      simp; omega
    have e2 : pr s l = pl s l := by simp [pr, hh]
    have hlt : (l.take (pl s l)).length = pl s l := by rw [List.length_take]; omega
    simp only [session_Table_Put_j0, Bool.not_false, cond_true, slices_Insert_session_row_session_row, gd_true hok, Option.bind_some, session_Table_Put_j1, ins, Int.toNat_natCast, List.set_set]
    have hg : geto (l.take (pl s l) ++ ([({ session := s, seq := (0:Int), r := zero_api_Reply } : session_row)] ++ l.drop (pl s l))) ((pl s l : Nat) : Int) = some ({ session := s, seq := (0:Int), r := zero_api_Reply } : session_row) := by
      rw [geto_nat, List.getElem?_append_right (by omega), hlt, Nat.sub_self]; rfl
    rw [hg, Option.bind_some]
    have : (l.take (pl s l) ++ ([({ session := s, seq := (0:Int), r := zero_api_Reply } : session_row)] ++ l.drop (pl s l))).set (pl s l) (rw_ s q r) = putL l (rw_ s q r) := by
      unfold putL
      rw [show (rw_ s q r).session = s from rfl, e2, List.set_append_right _ _ (by omega), hlt, Nat.sub_self]; rfl
    rw [← this]; rfl
theorem rise_nil : Rise [] := List.Pairwise.nil
theorem look_put {l : List session_row} (h : Rise l) (x : session_row) (s : Int) : look s (putL l x) = if s = x.session then some x else look s l := by
  have hm : ∀ y, y ∈ putL l x ↔ y = x ∨ (y ∈ l ∧ y.session ≠ x.session) := fun y => by
    rw [(putL_perm h x).mem_iff, List.mem_cons, List.mem_filter]
    simp
  split
  · rename_i e
    subst e
    exact (look_some (putL_rise h x)).2 ⟨(hm x).2 (.inl rfl), rfl⟩
  · rename_i hne
    cases e : look s l with
    | none =>
      refine (look_none (putL_rise h x)).2 fun y hy => ?_
      rcases (hm y).1 hy with rfl | ⟨h1, _⟩
      · exact fun e => hne e.symm
      · exact (look_none h).1 e y h1
    | some y =>
      obtain ⟨h1, h2⟩ := (look_some h).1 e
      exact (look_some (putL_rise h x)).2 ⟨(hm y).2 (.inr ⟨h1, by rw [h2]; exact hne⟩), h2⟩
end Go.Proofs.YtgnkkopjkgdieaaGreat
