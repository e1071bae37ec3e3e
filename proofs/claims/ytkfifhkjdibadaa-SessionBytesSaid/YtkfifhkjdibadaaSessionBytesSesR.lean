/- The last answers of sessions: what the document says, and that the table tells the same; plainly. -/
import Derived.Test.YtkfifhkjdibadaaSessionBytesSesP
import Derived.Test.YtkfifhkjdibadaaSessionBytesCodT
import Derived.Test.YtkfifhkjdibadaaSessionBytesCodS
set_option linter.unusedVariables false
set_option linter.unusedSimpArgs false
set_option maxRecDepth 100000
namespace Go.Proofs.Ytkfifhkjdibadaa
open Go Go.V
/-- An answer is the same as itself. -/
def okR (x : api_Reply) : Prop := x.Gots.length ≤ 9223372036854775807 ∧ x.Scans.length ≤ 9223372036854775807 ∧ ∀ l ∈ x.Scans, l.length ≤ 9223372036854775807 ∧ ∀ p ∈ l, isF p.At
theorem self_loop {α : Type} {body : Int → Option (Int ⊕ Bool)} (a : List α) (hn : a.length ≤ 9223372036854775807) (h1 : ∀ (i : Nat) (hi : i < a.length), body (i : Int) = some (.inl (IntKind.i64.wrap ((i : Int) + (1:Int))))) (h2 : body (a.length : Int) = some (.inr true)) : loopO body (0:Int) = some true := by
  refine loop_range (fun i : Nat => (i : Int)) a.length true (fun i hi => ?_) h2
  rw [h1 i hi]
  have : IntKind.i64.wrap ((i : Int) + (1:Int)) = ((i + 1 : Nat) : Int) := by rw [wrap_i64] <;> push_cast <;> omega
  rw [this]
theorem self_gots (a : List api_Got) (hn : a.length ≤ 9223372036854775807) : ref11_SameGots a a = some true := by
  unfold ref11_SameGots
  have e0 : (((a.length : Nat) : Int) != ((a.length : Nat) : Int)) = false := by simp
  rw [e0, cond_false]
  refine self_loop a hn (fun i hi => ?_) ?_
  · have e1 : decide ((i : Int) < (a.length : Int)) = true := by simpa using hi
    have e2 : (a[i].Has == a[i].Has) = true := by simp
    simp only [ref11_SameGots_l0, e1, cond_true, geto_lt hi, Option.bind_some, e2, toStr_refl, Bool.not_true, cond_false]
  · simp [ref11_SameGots_l0, inrO]
theorem self_cf {a : Nat} (ha : isF a) : ref01_Same a a = some true := by rw [same_cf ha ha, tr_t rfl]
theorem self_pairs (a : List api_Pair) (hn : a.length ≤ 9223372036854775807) (hf : ∀ p ∈ a, isF p.At) : ref11_SamePairs a a = some true := by
  unfold ref11_SamePairs
  have e0 : (((a.length : Nat) : Int) != ((a.length : Nat) : Int)) = false := by simp
  rw [e0, cond_false]
  refine self_loop a hn (fun i hi => ?_) ?_
  · have e1 : decide ((i : Int) < (a.length : Int)) = true := by simpa using hi
    simp only [ref11_SamePairs_l0, e1, cond_true, geto_lt hi, Option.bind_some, self_cf (hf _ (List.getElem_mem hi)), toStr_refl, Bool.not_true, cond_false]
  · simp [ref11_SamePairs_l0, inrO]
theorem self_reply {a : api_Reply} (h : okR a) : ref11_SameReply a a = some true := by
  obtain ⟨h1, h2, h3⟩ := h
  unfold ref11_SameReply
  have e0 : ∀ x : Int, (x != x) = false := fun x => by simp
  rw [e0, e0, e0, e0, cond_false, cond_false, cond_false, cond_false, self_gots _ h1, Option.bind_some, Bool.not_true, cond_false]
  refine self_loop a.Scans h2 (fun i hi => ?_) ?_
  · have e1 : decide ((i : Int) < (a.Scans.length : Int)) = true := by simpa using hi
    have g := h3 _ (List.getElem_mem hi)
    simp only [ref11_SameReply_l0, e1, cond_true, geto_lt hi, Option.bind_some, self_pairs _ g.1 g.2, Bool.not_true, cond_false]
  · simp [ref11_SameReply_l0, inrO]
theorem okR_of {x : api_Reply} (g : replyG x) : okR x := by
  obtain ⟨_, _, _, g4, g5, g6, g7⟩ := g
  exact ⟨by omega, by omega, fun l hl => ⟨by have := (g5 l hl).1; omega, fun p hp => ((g5 l hl).2 p hp).1⟩⟩
/-! ### What the document tells -/
def an (x : session_row) : ref11_Answer := { Session := x.session, Seq := x.seq, R := x.r }
def Rel (l : List session_row) (m : List ref11_Answer) : Prop := (l.map an).Perm m
def dfl (s : Int) : ref11_Answer := { Session := s, Seq := 0, R := zero_api_Reply }
theorem last_ref (m : List ref11_Answer) (hn : m.length ≤ 1000000) (s : Int) : ref11_Last m s = some ((m.find? fun a => a.Session == s).getD (dfl s)) := by
  have key : ∀ (k i : Nat), m.length - i ≤ k → i ≤ m.length → loopO (ref11_Last_l0 m s) (i : Int) = some (((m.drop i).find? fun a => a.Session == s).getD (dfl s)) := by
    intro k
    induction k with
    | zero =>
      intro i hk hi
      have e : i = m.length := by omega
      subst e
      rw [loopO_eq]
      simp [ref11_Last_l0, inrO, dfl]
    | succ k ih =>
      intro i hk hi
      by_cases hlt : i < m.length
      · have e1 : decide ((i : Int) < (m.length : Int)) = true := by simpa using hlt
        rw [loopO_eq, List.drop_eq_getElem_cons hlt]
        simp only [ref11_Last_l0, e1, cond_true, geto_lt hlt, Option.bind_some, List.find?_cons]
        cases hb : (m[i].Session == s) with
        | true => simp [inrO]
        | false =>
          have e2 : IntKind.i64.wrap ((i : Int) + (1:Int)) = ((i + 1 : Nat) : Int) := wrap_add (a := i) (b := 1) (by omega)
          simp only [cond_false, Option.bind_some, e2]
          exact ih (i + 1) (by omega) (by omega)
      · have e : i = m.length := by omega
        subst e
        rw [loopO_eq]
        simp [ref11_Last_l0, inrO, dfl]
  have := key m.length 0 (by omega) (by omega)
  rw [List.drop_zero] at this
  exact this
theorem rel_find {l : List session_row} {m : List ref11_Answer} (hr : Rise l) (h : Rel l m) (s : Int) : (m.find? fun a => a.Session == s) = (look s l).map an := by
  cases e : look s l with
  | none =>
    rw [Option.map_none, List.find?_eq_none]
    intro a ha
    obtain ⟨x, hx, rfl⟩ := List.mem_map.1 (h.mem_iff.2 ha)
    have := (look_none hr).1 e x hx
    simpa [an] using this
  | some x =>
    obtain ⟨h1, h2⟩ := (look_some hr).1 e
    have hx : an x ∈ m := h.mem_iff.1 (List.mem_map_of_mem h1)
    cases e2 : m.find? fun a => a.Session == s with
    | none =>
      have := List.find?_eq_none.1 e2 _ hx
      simp [an, h2] at this
    | some a =>
      have ha := List.mem_of_find?_eq_some e2
      have hs : a.Session = s := by have := List.find?_some e2; simpa using this
      obtain ⟨y, hy, rfl⟩ := List.mem_map.1 (h.mem_iff.2 ha)
      have h3 : look s l = some y := (look_some hr).2 ⟨hy, hs⟩
      rw [e] at h3
      cases h3; rfl
theorem last_rel {l : List session_row} {m : List ref11_Answer} (hr : Rise l) (h : Rel l m) (hn : l.length ≤ 1000000) (s : Int) : ref11_Last m s = some (match look s l with | some x => an x | none => dfl s) := by
  rw [last_ref m (by rw [← h.length_eq, List.length_map]; exact hn) s, rel_find hr h]
  cases look s l <;> rfl
theorem tell_loop (m : List ref11_Answer) (hn : m.length ≤ 1000000) (s : Int) (x : ref11_Answer) : loopO (ref11_Tell_l0 m s) ([x], (0:Int)) = some (x :: m.filter (fun a => a.Session != s), (0:Int)) := by
  have key : ∀ (k i : Nat) (acc : List ref11_Answer), m.length - i ≤ k → i ≤ m.length → acc.length ≤ i + 1 → loopO (ref11_Tell_l0 m s) (acc, (i : Int)) = some (acc ++ (m.drop i).filter (fun a => a.Session != s), (0:Int)) := by
    intro k
    induction k with
    | zero =>
      intro i acc hk hi ha
      have e : i = m.length := by omega
      subst e
      rw [loopO_eq]
      simp [ref11_Tell_l0, inrO]
    | succ k ih =>
      intro i acc hk hi ha
      by_cases hlt : i < m.length
      · have e1 : decide ((i : Int) < (m.length : Int)) = true := by simpa using hlt
        have e2 : IntKind.i64.wrap ((i : Int) + (1:Int)) = ((i + 1 : Nat) : Int) := wrap_add (a := i) (b := 1) (by omega)
        have e3 : room acc [m[i]] = true := room_le (by simp only [List.length_cons, List.length_nil]; omega)
        rw [loopO_eq, List.drop_eq_getElem_cons hlt]
        simp only [ref11_Tell_l0, e1, cond_true, geto_lt hlt, Option.bind_some, List.filter_cons, e2]
        cases hb : (m[i].Session != s) with
        | true =>
          simp only [cond_true, gd_true e3, Option.bind_some, if_true]
          rw [ih (i + 1) (acc ++ [m[i]]) (by omega) (by omega) (by simp only [List.length_append, List.length_cons, List.length_nil]; omega)]
          simp
        | false =>
          simp only [cond_false, Option.bind_some, Bool.false_eq_true, if_false]
          exact ih (i + 1) acc (by omega) (by omega) (by omega)
      · have e : i = m.length := by omega
        subst e
        rw [loopO_eq]
        simp [ref11_Tell_l0, inrO]
  simpa using key m.length 0 [x] (by omega) (by omega) (by simp)
theorem tell_eq {l : List session_row} {m : List ref11_Answer} (hr : Rise l) (h : Rel l m) (hn : l.length ≤ 999999) (s q : Int) (r : api_Reply) : ref11_Tell m s q r =
    some (if q = 0 then (m, 1) else if seqOf s l ≥ q then (m, 10) else (an (rw_ s q r) :: m.filter (fun a => a.Session != s), 0)) := by
  unfold ref11_Tell
  by_cases h0 : q = 0
  · subst h0; rfl
  have e0 : (q == (0:Int)) = false := by simpa using h0
  have e1 : (match look s l with | some x => an x | none => dfl s).Seq = seqOf s l := by unfold seqOf; cases look s l <;> rfl
  rw [e0, cond_false, last_rel hr h (by omega), Option.bind_some, e1, if_neg h0]
  by_cases h5 : seqOf s l ≥ q
  · rw [if_pos h5, decide_eq_true h5, cond_true]
  · rw [if_neg h5, decide_eq_false h5, cond_false]
    exact tell_loop m (by rw [← h.length_eq, List.length_map]; omega) s _
theorem rel_put {l : List session_row} {m : List ref11_Answer} (hr : Rise l) (h : Rel l m) (x : session_row) : Rel (putL l x) (an x :: m.filter (fun a => a.Session != x.session)) := by
  unfold Rel
  refine ((putL_perm hr x).map an).trans ?_
  rw [List.map_cons]
  refine List.Perm.cons _ ?_
  have h2 := h.filter (fun a => a.Session != x.session)
  rw [List.filter_map] at h2
  exact h2
/-- All answers are right ones. -/
def AllR (l : List session_row) : Prop := ∀ x ∈ l, okR x.r ∧ 0 < x.seq
theorem told_in {l : List session_row} (hr : Rise l) (hn : l.length ≤ 1000000) (ha : AllR l) (s : Int) (hs : 0 ≤ s ∧ s < 6) : loopO (law14_told_l1 (some { l := l }) s (match look s l with | some x => an x | none => dfl s)) (0:Int) = some (Sum.inl (s + 1)) := by
  refine loop_range (fun i : Nat => (i : Int)) 8 (Sum.inl (s + 1)) (fun q hq => ?_) ?_
  · have e1 : decide ((q : Int) < (8:Int)) = true := decide_eq_true (by omega)
    have ew : IntKind.u64.wrap ((q : Int) + (1:Int)) = ((q + 1 : Nat) : Int) := by rw [wrap_u64] <;> push_cast <;> omega
    simp only [law14_told_l1, e1, cond_true, get_eq hr hn, Option.bind_some]
    cases e : look s l with
    | none =>
      dsimp only [dfl]
      have h2 : decide ((0:Int) > (q : Int)) = false := decide_eq_false (by omega)
      by_cases h0 : (q : Int) = 0
      · have h4 : decide ((q : Int) > (0:Int)) = false := decide_eq_false (by omega)
        have ew' : IntKind.u64.wrap 1 = 1 := by decide
        simp [law14_told_j2, law14_told_j3, h2, h4, h0, ew']
      · have h3 : ((0:Int) == (q : Int)) = false := by simp; omega
        simp [law14_told_j2, law14_told_j3, h2, h3, ew]
    | some x =>
      have hok := ha x ((look_some hr).1 e).1
      dsimp only [an]
      by_cases h1 : x.seq < (q : Int)
      · have h2 : decide (x.seq > (q : Int)) = false := decide_eq_false (by omega)
        have h3 : (x.seq == (q : Int)) = false := by simp; omega
        simp [law14_told_j2, law14_told_j3, h1, h2, h3, ew]
      · by_cases h2 : x.seq > (q : Int)
        · have h3 : (x.seq == (q : Int)) = false := by simp; omega
          simp [law14_told_j2, law14_told_j3, h1, h2, h3, ew]
        · have h3 : x.seq = (q : Int) := by omega
          have h0 : decide ((q : Int) > 0) = true := decide_eq_true (by omega)
          have h4 : decide ((q : Int) > (q : Int)) = false := by simp
          have h6 : ((q : Int) == (q : Int)) = true := by simp
          have h7 : ((0:Int) != (0:Int)) = false := rfl
          have h8 : ((0:Int) == (0:Int)) = true := rfl
          have h9 : decide ((0:Int) < (q : Int)) = true := decide_eq_true (by omega)
          simp only [h3, gt_iff_lt, Int.lt_irrefl, if_false, decide_false, cond_false, Option.bind_some, law14_told_j2, h6, cond_true, h9, law14_told_j3, h7, h8, self_reply hok.1, Bool.not_true, ew]
  · have e1 : decide (((8 : Nat) : Int) < (8:Int)) = false := by decide
    have ew : IntKind.u64.wrap (s + (1:Int)) = s + 1 := by rw [wrap_u64] <;> omega
    simp only [law14_told_l1, e1, cond_false, ew, inrO, Option.map_some]
theorem told_eq {l : List session_row} {m : List ref11_Answer} (hr : Rise l) (h : Rel l m) (hn : l.length ≤ 1000000) (ha : AllR l) : law14_told (some { l := l }) m = some true := by
  unfold law14_told
  have e0 : (((l.length : Nat) : Int) != ((m.length : Nat) : Int)) = false := by
    have := h.length_eq
    rw [List.length_map] at this
    simp [this]
  simp only [session_Table_Len, Option.bind_some, e0, cond_false]
  refine loop_range (fun i : Nat => (i : Int)) 6 true (fun s hs => ?_) ?_
  · have e1 : decide ((s : Int) < (6:Int)) = true := decide_eq_true (by omega)
    have e2 : (match look (s : Int) l with | some x => an x | none => dfl (s : Int)).Seq = seqOf s l := by unfold seqOf; cases look (s : Int) l <;> rfl
    have e3 : (seqOf (s : Int) l != seqOf (s : Int) l) = false := by simp
    simp only [law14_told_l0, e1, cond_true, last_rel hr h hn, Option.bind_some, last_eq hr hn, e2, e3, cond_false]
    rw [told_in hr hn ha (s : Int) (by omega)]
    simp
  · have e1 : decide (((6 : Nat) : Int) < (6:Int)) = false := by decide
    simp only [law14_told_l0, e1, cond_false, inrO, Option.map_some]
end Go.Proofs.Ytkfifhkjdibadaa
