/- The book of rules: what its methods come to. -/
import Derived.Test.YtcnldkkdommmdaaPolicyBytesM
import Derived.Test.YtcnldkkdommmdaaPolicyBytesFltS
import Derived.Test.YtcnldkkdommmdaaGvPlain
set_option linter.unusedVariables false
set_option linter.unusedSimpArgs false
set_option maxRecDepth 100000
namespace Go.Proofs.Ytcnldkkdommmdaa
open Go Go.V
/-- Is it a line that a revocation ends? -/
def hit (id : Int) (x : policy_line) : Bool := x.r.ID == id && x.to_ == 0
/-- A line behind a revocation. -/
def revd (id e : Int) (x : policy_line) : policy_line := bif hit id x then { r := x.r, from_ := x.from_, to_ := if (1:Int) > e then 1 else e } else x
theorem set_map {α : Type} (f : α → α) (l : List α) (i : Nat) (h : i < l.length) : ((l.take i).map f ++ l.drop i).set i (f l[i]) = (l.take (i + 1)).map f ++ l.drop (i + 1) := by
  rw [List.set_append_right _ _ (by simp; omega)]
  have e : i - ((l.take i).map f).length = 0 := by simp; omega
  rw [e, List.drop_eq_getElem_cons h, List.set_cons_zero, List.take_succ_eq_append_getElem h, List.map_append, List.append_assoc]
  rfl
theorem get_map {α : Type} (f : α → α) (l : List α) (i : Nat) (h : i < l.length) : ((l.take i).map f ++ l.drop i)[i]? = some l[i] := by
  rw [List.getElem?_append_right (by simp; omega)]
  have e : i - ((l.take i).map f).length = 0 := by simp; omega
  rw [e, List.getElem?_drop, Nat.add_zero, List.getElem?_eq_getElem h]
theorem keep_map {α : Type} (f : α → α) (l : List α) (i : Nat) (h : i < l.length) (hf : f l[i] = l[i]) : (l.take i).map f ++ l.drop i = (l.take (i + 1)).map f ++ l.drop (i + 1) := by
  rw [List.drop_eq_getElem_cons h, List.take_succ_eq_append_getElem h, List.map_append, List.append_assoc]
  simp only [List.map_cons, List.map_nil, hf]
  rfl
theorem any_take {α : Type} (p : α → Bool) (l : List α) (i : Nat) (h : i < l.length) : (l.take (i + 1)).any p = ((l.take i).any p || p l[i]) := by
  rw [List.take_succ_eq_append_getElem h, List.any_append]
  simp
theorem revoke_eq (b : policy_Book) (id e : Int) (hl : b.l.length ≤ 1000000) : policy_Book_Revoke (some b) id e = some (b.l.any (hit id), some { l := b.l.map (revd id e) }) := by
  unfold policy_Book_Revoke
  have h := loop_range (body := policy_Book_Revoke_l0 b id e) (fun i => ({ l := (b.l.take i).map (revd id e) ++ b.l.drop i }, (i : Int), (b.l.take i).any (hit id))) b.l.length (b.l.any (hit id), some { l := b.l.map (revd id e) }) ?_ ?_
  · simpa using h
  · intro i hi
    have e1 : decide ((i : Int) < (b.l.length : Int)) = true := by simpa using hi
    have e2 : IntKind.i64.wrap ((i : Int) + 1) = ((i + 1 : Nat) : Int) := by rw [wrap_i64] <;> omega
    simp only [policy_Book_Revoke_l0, e1, cond_true, geto_nat, get_map _ _ _ hi, Option.bind_some, e2, any_take _ _ _ hi]
    cases hh : hit id b.l[i] with
    | true =>
      have hr : revd id e b.l[i] = { r := b.l[i].r, from_ := b.l[i].from_, to_ := if (1:Int) > e then 1 else e } := by simp [revd, hh]
      simp only [hit, Bool.and_eq_true] at hh
      rw [hh.1, hh.2, Bool.or_true, ← hr, Int.toNat_natCast, set_map _ _ _ hi]
      rfl
    | false =>
      have hr : revd id e b.l[i] = b.l[i] := by simp [revd, hh]
      rw [Bool.or_false, ← keep_map _ _ _ hi hr]
      simp only [hit] at hh
      cases h1 : (b.l[i].r.ID == id) with
      | false => rfl
      | true =>
        rw [h1, Bool.true_and] at hh
        rw [hh]; rfl
  · have e1 : decide ((b.l.length : Int) < (b.l.length : Int)) = false := by simp
    simp only [policy_Book_Revoke_l0, e1, cond_false, inrO, Option.map_some, List.take_length, List.drop_length, List.append_nil]
theorem grant_eq (b : policy_Book) (r : api_Rule) (e : Int) (hl : b.l.length ≤ 1000000) : policy_Book_Grant (some b) r e = some (some { l := b.l.map (revd r.ID e) ++ [{ r := r, from_ := e, to_ := 0 }] }) := by
  simp only [policy_Book_Grant, revoke_eq b r.ID e hl, Option.bind_some]
  rw [gd_true (room_le (by simp; omega))]
/-- Does a line tell of a number at an epoch? -/
def tells (id e : Int) (x : policy_line) : Bool := x.r.ID == id && (decide (x.from_ ≤ e) && (x.to_ == 0 || decide (x.to_ > e)))
def noRule : api_Rule := { ID := 0, From := 0, To := 0, Lo := 0, Hi := 0, Authority := 0, Quota := 0 }
def told : Option policy_line → api_Rule × Bool
  | some x => (x.r, true)
  | none => (noRule, false)
/-- The last line that tells. -/
def lastOf (p : policy_line → Bool) (l : List policy_line) : Option policy_line := l.reverse.find? p
theorem at_step (b : policy_Book) (id e : Int) (i : Nat) (h : i < b.l.length) (hl : b.l.length ≤ 1000000) : policy_Book_At_l0 b id e (i : Int) = bif tells id e b.l[i] then some (.inr (b.l[i].r, true)) else some (.inl ((i : Int) - 1)) := by
  have e1 : decide ((i : Int) ≥ 0) = true := by simp
  have e2 : IntKind.i64.wrap ((i : Int) - 1) = (i : Int) - 1 := by rw [wrap_i64] <;> omega
  simp only [policy_Book_At_l0, e1, cond_true, geto_lt h, Option.bind_some, e2, inrO, Option.map_some, tells]
  cases (b.l[i].r.ID == id) <;> cases decide (b.l[i].from_ ≤ e) <;> cases (b.l[i].to_ == 0) <;> cases decide (b.l[i].to_ > e) <;> rfl
theorem at_loop (b : policy_Book) (id e : Int) (hl : b.l.length ≤ 1000000) : ∀ n, n ≤ b.l.length → loopO (policy_Book_At_l0 b id e) ((n : Int) - 1) = some (told (lastOf (tells id e) (b.l.take n))) := by
  intro n
  induction n with
  | zero =>
    intro _
    rw [loopO_eq]
    rfl
  | succ n ih =>
    intro hn
    have e0 : ((n + 1 : Nat) : Int) - 1 = (n : Int) := by omega
    rw [loopO_eq, e0, at_step b id e n (by omega) hl, List.take_succ_eq_append_getElem (by omega)]
    simp only [lastOf, List.reverse_append, List.reverse_cons, List.reverse_nil, List.nil_append, List.singleton_append, List.find?_cons]
    cases tells id e b.l[n] with
    | true => rfl
    | false => exact ih (by omega)
theorem at_eq (b : policy_Book) (id e : Int) (hl : b.l.length ≤ 1000000) : policy_Book_At (some b) id e = some (told (lastOf (tells id e) b.l)) := by
  have e2 : IntKind.i64.wrap ((b.l.length : Int) - 1) = (b.l.length : Int) - 1 := by rw [wrap_i64] <;> omega
  show loopO (policy_Book_At_l0 b id e) (IntKind.i64.wrap ((b.l.length : Int) - 1)) = _
  rw [e2]
  have := at_loop b id e hl b.l.length (Nat.le_refl _)
  rwa [List.take_length] at this
theorem lastOf_snoc (p : policy_line → Bool) (l : List policy_line) (x : policy_line) : lastOf p (l ++ [x]) = if p x then some x else lastOf p l := by
  simp [lastOf, List.find?_cons]
  cases p x <;> rfl
def okRule (r : api_Rule) : Prop := r.Lo < 18446744073709551616 ∧ r.Hi < 18446744073709551616
/-- The same rule. -/
def sameR (a b : api_Rule) : Bool := a.ID == b.ID && (a.From == b.From && (a.To == b.To && (decide (fRank a.Lo = fRank b.Lo) && (decide (fRank a.Hi = fRank b.Hi) && (a.Authority == b.Authority && a.Quota == b.Quota)))))
theorem sameRule_eq {a b : api_Rule} (ha : okRule a) (hb : okRule b) : ref11_SameRule a b = some (sameR a b) := by
  simp only [ref11_SameRule, same_eq ha.1 hb.1, same_eq ha.2 hb.2, Option.bind_some, sameR]
  cases (a.ID == b.ID) <;> cases (a.From == b.From) <;> cases (a.To == b.To) <;> cases decide (fRank a.Lo = fRank b.Lo) <;> cases decide (fRank a.Hi = fRank b.Hi) <;> cases (a.Authority == b.Authority) <;> rfl
theorem sameR_refl (a : api_Rule) : sameR a a = true := by simp [sameR]
end Go.Proofs.Ytcnldkkdommmdaa
