/- A hold's bytes, as the document has them. -/
import Derived.Test.YtbdhhmnncknhhaaLocksBytesCodFW
import Derived.Test.YtbdhhmnncknhhaaLocksBytesCodWH
set_option linter.unusedVariables false
set_option linter.unusedSimpArgs false
set_option maxRecDepth 100000
namespace Go.Proofs.Ytbdhhmnncknhhaa
open Go Go.V
theorem RW.rank {x : Nat} (h : isF x) : RW (fun w => (ref01_Rank x).bind fun t => ref02_Num w t (8:Int)) (rkB x) := by
  have e := frank_eq h
  simp only [e, Option.bind_some]
  exact RW.n8 (fRank_nn h)
theorem put_loop (l : List Nat) (body : List Int × Int → Option ((List Int × Int) ⊕ List Int))
    (hb : ∀ w i, body (w, i) = bif decide (i < (l.length : Int)) then (geto l i).bind fun x => (ref01_Rank x).bind fun t => (ref02_Num w t (8:Int)).bind fun t => some (Sum.inl (t, IntKind.i64.wrap (i + (1:Int)))) else inrO (some w))
    (hx : ∀ x ∈ l, isF x) (hl : l.length ≤ 1000000) : RW (fun w => loopO body (w, (0:Int))) (l.map rkB).flatten := by
  refine RW.loopW _ (by simp only [List.length_map]; omega) (fun i hi => ?_) (fun w => ?_)
  · have hi' : i < l.length := by simpa using hi
    have hF := hx _ (List.getElem_mem hi')
    refine ⟨_, by rw [List.getElem_map]; exact RW.rank hF, fun w => ?_⟩
    have e1 : decide ((i : Int) < (l.length : Int)) = true := by simpa using hi'
    simp only [hb, e1, cond_true, geto_lt hi', Option.bind_some, frank_eq hF]
  · simp [hb, inrO]
theorem put_id {x : api_ID} (h1 : 0 ≤ x.Session) (h2 : 0 ≤ x.Seq) : RW (fun w => ref12_ID w x) (idB x) := (RW.n8 h1).bind (RW.n8 h2).last
theorem put_hold {h : api_Hold} (ok : holdOK h) : RW (fun w => ref12_Hold w h) (holdB h) := by
  obtain ⟨h1, h2, h3, h4, h5, h6, l1, l2, l3, l4⟩ := ok
  refine RW.congr (b := idB h.ID ++ (leB 8 h.Epoch.toNat ++ (leB 4 h.Gets.length ++ ((h.Gets.map rkB).flatten ++ (leB 4 h.Scans.length ++ ((h.Scans.map scB).flatten ++ (leB 4 h.Puts.length ++ ((h.Puts.map rkB).flatten ++ byB h.Data)))))))) ?_ (by simp only [idB, holdB, List.append_assoc])
  refine (put_id h1 h2).bind ((RW.n8 h3).bind ((RW.cnt h.Gets.length (by omega)).bind ((put_loop h.Gets _ (fun w i => rfl) h4 l1).bind ((RW.cnt h.Scans.length (by omega)).bind (RW.bind ?_ ((RW.cnt h.Puts.length (by omega)).bind ((put_loop h.Puts _ (fun w i => rfl) h6 l3).bind (RW.bytes h.Data (by omega)).last)))))))
  refine RW.loopW _ (by simp only [List.length_map]; omega) (fun i hi => ?_) (fun w => ?_)
  · have hi' : i < h.Scans.length := by simpa using hi
    obtain ⟨f1, f2⟩ := h5 _ (List.getElem_mem hi')
    refine ⟨_, by rw [List.getElem_map]; exact (RW.rank f1).bind (RW.rank f2), fun w => ?_⟩
    have e1 : decide ((i : Int) < (h.Scans.length : Int)) = true := by simpa using hi'
    simp only [ref12_Hold_l3, e1, cond_true, geto_lt hi', Option.bind_some, frank_eq f1, frank_eq f2, Option.bind_assoc]
  · simp [ref12_Hold_l3, inrO]
end Go.Proofs.Ytbdhhmnncknhhaa
