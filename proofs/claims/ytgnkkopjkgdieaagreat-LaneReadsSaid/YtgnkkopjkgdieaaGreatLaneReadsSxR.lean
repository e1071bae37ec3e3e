/- The last answers of sessions: what the document says, and that the table tells the same; plainly. -/
import Derived.Test.YtgnkkopjkgdieaaGreatLaneReadsSxP
import Derived.Test.YtgnkkopjkgdieaaGreatLaneReadsCodT
import Derived.Test.YtgnkkopjkgdieaaGreatLaneReadsCodS
set_option linter.unusedVariables false
set_option linter.unusedSimpArgs false
set_option maxRecDepth 100000
namespace Go.Proofs.YtgnkkopjkgdieaaGreat
open Go Go.V
/-- An answer is the same as itself. -/
def okR (x : api_Reply) : Prop := x.Gots.length ≤ 9223372036854775807 ∧ x.Scans.length ≤ 9223372036854775807 ∧ ∀ l ∈ x.Scans, l.length ≤ 9223372036854775807 ∧ ∀ p ∈ l, isF p.At
theorem self_loop {α : Type} {body : Int → Option (Int ⊕ Bool)} (a : List α) (hn : a.length ≤ 9223372036854775807) (h1 : ∀ (i : Nat) (hi : i < a.length), body (i : Int) = some (.inl (IntKind.i64.wrap ((i : Int) + (1:Int))))) (h2 : body (a.length : Int) = some (.inr true)) : loopO body (0:Int) = some true := by
  refine loop_range (fun i : Nat => (i : Int)) a.length true (fun i hi => ?_) h2
  rw [h1 i hi]
  have : IntKind.i64.wrap ((i : Int) + (1:Int)) = ((i + 1 : Nat) : Int) := by rw [wrap_i64] <;> push_cast <;> omega
  rw [this]
theorem self_gots (a : List api_Got) (hn : a.length ≤ 9223372036854775807) : ref11_SameGots a a = some true := by
  unfold ref11_SameGots
  have e0 : (((a.length : Nat) : Int) != ((a.length : Nat) : Int)) = false := by simp
  rw [e0, cond_false]
  refine self_loop a hn (fun i hi => ?_) ?_
  · have e1 : decide ((i : Int) < (a.length : Int)) = true := by simpa using hi
    have e2 : (a[i].Has == a[i].Has) = true := by simp
    simp only [ref11_SameGots_l0, e1, cond_true, geto_lt hi, Option.bind_some, e2, toStr_refl, Bool.not_true, cond_false]
  · simp [ref11_SameGots_l0, inrO]
theorem self_cf {a : Nat} (ha : isF a) : ref01_Same a a = some true := by rw [same_cf ha ha, tr_t rfl]
theorem self_pairs (a : List api_Pair) (hn : a.length ≤ 9223372036854775807) (hf : ∀ p ∈ a, isF p.At) : ref11_SamePairs a a = some true := by
  unfold ref11_SamePairs
  have e0 : (((a.length : Nat) : Int) != ((a.length : Nat) : Int)) = false := by simp
  rw [e0, cond_false]
  refine self_loop a hn (fun i hi => ?_) ?_
  · have e1 : decide ((i : Int) < (a.length : Int)) = true := by simpa using hi
    simp only [ref11_SamePairs_l0, e1, cond_true, geto_lt hi, Option.bind_some, self_cf (hf _ (List.getElem_mem hi)), toStr_refl, Bool.not_true, cond_false]
  · simp [ref11_SamePairs_l0, inrO]
theorem self_reply {a : api_Reply} (h : okR a) : ref11_SameReply a a = some true := by
  obtain ⟨h1, h2, h3⟩ := h
  unfold ref11_SameReply
  have e0 : ∀ x : Int, (x != x) = false := fun x => by simp
  rw [e0, e0, e0, e0, cond_false, cond_false, cond_false, cond_false, self_gots _ h1, Option.bind_some, Bool.not_true, cond_false]
  refine self_loop a.Scans h2 (fun i hi => ?_) ?_
  · have e1 : decide ((i : Int) < (a.Scans.length : Int)) = true := by simpa using hi
    have g := h3 _ (List.getElem_mem hi)
    simp only [ref11_SameReply_l0, e1, cond_true, geto_lt hi, Option.bind_some, self_pairs _ g.1 g.2, Bool.not_true, cond_false]
  · simp [ref11_SameReply_l0, inrO]
/-! ### What the document tells -/
end Go.Proofs.YtgnkkopjkgdieaaGreat
