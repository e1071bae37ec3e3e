/- A hold's bytes. -/
import Derived.Test.YtbdhhmnncknhhaaLocksBytesCodW
set_option linter.unusedVariables false
set_option linter.unusedSimpArgs false
set_option maxRecDepth 100000
namespace Go.Proofs.Ytbdhhmnncknhhaa
open Go Go.V
def isF (x : Nat) : Prop := x < 18446744073709551616
def rkB (x : Nat) : List Int := leB 8 (fRank x).toNat
def scB (x : Nat × Nat) : List Int := rkB x.1 ++ rkB x.2
theorem fRank_nn {x : Nat} (h : isF x) : 0 ≤ fRank x := by
  unfold isF at h
  unfold fRank
  split
  · omega
  · split <;> omega
theorem WR.rank {x : Nat} (h : isF x) : WR (fun w => (number_Rank x).bind fun t => octet_Writer_Num w t (8:Int)) (rkB x) := by
  have e := rank_eq h
  simp only [e, Option.bind_some]
  exact WR.n8 (fRank_nn h)
/-- What can be laid. -/
def holdOK (h : api_Hold) : Prop := 0 ≤ h.ID.Session ∧ 0 ≤ h.ID.Seq ∧ 0 ≤ h.Epoch ∧ (∀ x ∈ h.Gets, isF x) ∧ (∀ x ∈ h.Scans, isF x.1 ∧ isF x.2) ∧ (∀ x ∈ h.Puts, isF x) ∧ h.Gets.length ≤ 1000000 ∧ h.Scans.length ≤ 1000000 ∧ h.Puts.length ≤ 1000000 ∧ h.Data.length ≤ 1000000
def idB (x : api_ID) : List Int := leB 8 x.Session.toNat ++ leB 8 x.Seq.toNat
def holdB (h : api_Hold) : List Int :=
  leB 8 h.ID.Session.toNat ++ (leB 8 h.ID.Seq.toNat ++ (leB 8 h.Epoch.toNat ++ (leB 4 h.Gets.length ++ ((h.Gets.map rkB).flatten ++ (leB 4 h.Scans.length ++ ((h.Scans.map scB).flatten ++ (leB 4 h.Puts.length ++ ((h.Puts.map rkB).flatten ++ byB h.Data))))))))
theorem lay_loop (l : List Nat) (body : octet_Writer × Int → Option ((octet_Writer × Int) ⊕ octet_Writer))
    (hb : ∀ w i, body (w, i) = bif decide (i < (l.length : Int)) then (geto l i).bind fun x => (number_Rank x).bind fun t => (octet_Writer_Num w t (8:Int)).bind fun t => some (Sum.inl (t, IntKind.i64.wrap (i + (1:Int)))) else inrO (some w))
    (hx : ∀ x ∈ l, isF x) (hl : l.length ≤ 1000000) : WR (fun w => loopO body (w, (0:Int))) (l.map rkB).flatten := by
  refine WR.loopW _ (by simp only [List.length_map]; omega) (fun i hi => ?_) (fun w => ?_)
  · have hi' : i < l.length := by simpa using hi
    have hF := hx _ (List.getElem_mem hi')
    refine ⟨_, by rw [List.getElem_map]; exact WR.rank hF, fun w => ?_⟩
    have e1 : decide ((i : Int) < (l.length : Int)) = true := by simpa using hi'
    simp only [hb, e1, cond_true, geto_lt hi', Option.bind_some, rank_eq hF]
  · simp [hb, inrO]
theorem lay_hold {h : api_Hold} (ok : holdOK h) : WR (fun w => locks_Lay w h) (holdB h) := by
  obtain ⟨h1, h2, h3, h4, h5, h6, l1, l2, l3, l4⟩ := ok
  refine (WR.n8 h1).bind ((WR.n8 h2).bind ((WR.n8 h3).bind ((WR.cnt h.Gets.length (by omega)).bind ((lay_loop h.Gets _ (fun w i => rfl) h4 l1).bind ((WR.cnt h.Scans.length (by omega)).bind (WR.bind ?_ ((WR.cnt h.Puts.length (by omega)).bind ((lay_loop h.Puts _ (fun w i => rfl) h6 l3).bind (WR.bytes h.Data (by omega)).last))))))))
  refine WR.loopW _ (by simp only [List.length_map]; omega) (fun i hi => ?_) (fun w => ?_)
  · have hi' : i < h.Scans.length := by simpa using hi
    obtain ⟨f1, f2⟩ := h5 _ (List.getElem_mem hi')
    refine ⟨_, by rw [List.getElem_map]; exact (WR.rank f1).bind (WR.rank f2), fun w => ?_⟩
    have e1 : decide ((i : Int) < (h.Scans.length : Int)) = true := by simpa using hi'
    simp only [locks_Lay_l3, e1, cond_true, geto_lt hi', Option.bind_some, rank_eq f1, rank_eq f2, Option.bind_assoc]
  · simp [locks_Lay_l3, inrO]
end Go.Proofs.Ytbdhhmnncknhhaa
