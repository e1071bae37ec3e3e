/- The last answers of sessions: what the table does, plainly. -/
import Derived.Test.YtgnkkopjkgdieaaGreatLaneQuotasM
import Derived.Test.YtgnkkopjkgdieaaGreatLaneQuotasGv
set_option linter.unusedVariables false
set_option linter.unusedSimpArgs false
set_option maxRecDepth 100000
namespace Go.Proofs.YtgnkkopjkgdieaaGreat
open Go Go.V
def Rise (l : List session_row) : Prop := l.Pairwise fun a b => a.session < b.session
def lo (s : Int) (x : session_row) : Bool := decide (x.session < s)
theorem Rise.lt {l : List session_row} (h : Rise l) {a b : Nat} (ha : a < l.length) (hb : b < l.length) (hab : a < b) : l[a].session < l[b].session := List.pairwise_iff_getElem.1 h a b ha hb hab
theorem Rise.ahd {l : List session_row} (h : Rise l) (s : Int) : Ahd (lo s) l := fun a b ha hb hab hp => by
  have := h.lt ha hb hab
  simp only [lo, decide_eq_true_eq] at hp ⊢
  omega
theorem cmp_u64 (a b : Int) : cmp_Compare_uint64 a b = some (if a < b then -1 else if a > b then 1 else 0) := by
  have h1 : (a != a) = false := by simp
  have h2 : (b != b) = false := by simp
  simp only [cmp_Compare_uint64, cmp_isNaN_uint64, Option.bind_some, h1, h2, cond_false]
  by_cases h : a < b
  · simp [h]
  · by_cases h' : a > b
    · simp [h, h']
    · simp [h, h']
/-- The place of a session. -/
def pl (s : Int) (l : List session_row) : Nat := lb (lo s) l
def hit (s : Int) (l : List session_row) : Bool := match l[pl s l]? with | some x => x.session == s | none => false
theorem find_eq {l : List session_row} (h : Rise l) (hn : l.length ≤ 1000000) (s : Int) : session_Table_find (some { l := l }) s = some (((pl s l : Nat) : Int), hit s l) := by
  have hs : loopO (session_Table_find_l1 { l := l } s) (((l.length : Nat) : Int), (0:Int)) = some ((lb (lo s) l : Nat) : Int) := by
    refine search_loop (R := Int) l (lo s) (by omega) (h.ahd s) (fun i j k hk hij hke hj => ?_) (fun i j hij => ?_)
    · have e1 : decide ((i : Int) < (j : Int)) = true := by simpa using hij
      have e2 := mid_eq (i := i) (j := j) (by omega)
      rw [← hke] at e2
      simp only [session_Table_find_l1, e1, cond_true, e2, geto_lt hk, Option.bind_some, session_Table_find_1, cmp_u64]
      have e3 : IntKind.i64.wrap ((k : Int) + (1:Int)) = ((k + 1 : Nat) : Int) := wrap_add (a := k) (b := 1) (by omega)
      by_cases hl : l[k].session < s
      · simp [lo, hl, e3]
      · have : ¬ (if l[k].session > s then (1:Int) else 0) < 0 := by split <;> omega
        simp [lo, hl, this]
    · have e1 : decide ((i : Int) < (j : Int)) = false := by simpa using hij
      simp only [session_Table_find_l1, e1, cond_false, inrO, Option.map_some]
  simp only [session_Table_find, hs, Option.bind_some, session_Table_find_j0]
  rw [show lb (lo s) l = pl s l from rfl]
  unfold hit
  by_cases hk : pl s l < l.length
  · have e1 : decide (((pl s l : Nat) : Int) < (l.length : Int)) = true := by simpa using hk
    rw [e1, cond_true, geto_lt hk, Option.bind_some]
    simp only [session_Table_find_1, cmp_u64, Option.bind_some, List.getElem?_eq_getElem hk]
    by_cases h1 : l[pl s l].session < s
    · have h2 : ¬ l[pl s l].session = s := by omega
      simp [h1, h2]
    · by_cases h2 : l[pl s l].session > s
      · have h3 : ¬ l[pl s l].session = s := by omega
        simp [h1, h2, h3]
      · have h3 : l[pl s l].session = s := by omega
        simp [h1, h2, h3]
  · have e1 : decide (((pl s l : Nat) : Int) < (l.length : Int)) = false := by simpa using hk
    rw [e1, cond_false, List.getElem?_eq_none (by omega)]
    rfl
theorem pl_le (s : Int) (l : List session_row) : pl s l ≤ l.length := lb_le _ _
theorem pl_lt {s : Int} {l : List session_row} {a : Nat} (h : a < l.length) (hp : a < pl s l) : l[a].session < s := by
  have := lb_lt (p := lo s) (l := l) hp
  simpa [lo] using this
theorem pl_ge {s : Int} {l : List session_row} (hr : Rise l) {a : Nat} (h : a < l.length) (hp : pl s l ≤ a) : s ≤ l[a].session := by
  have hpl : pl s l < l.length := by omega
  have h1 : lo s l[pl s l] = false := lb_at (p := lo s) (l := l) hpl
  have h2 : s ≤ l[pl s l].session := by simpa [lo] using h1
  rcases Nat.eq_or_lt_of_le hp with e | e
  · subst e; exact h2
  · have := hr.lt hpl h e
    omega
end Go.Proofs.YtgnkkopjkgdieaaGreat
