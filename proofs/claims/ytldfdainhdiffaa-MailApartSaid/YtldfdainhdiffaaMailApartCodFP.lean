/- An answer's bytes, as the document has them. -/
import Derived.Test.YtldfdainhdiffaaMailApartCodFH
import Derived.Test.YtldfdainhdiffaaMailApartCodWP
set_option linter.unusedVariables false
set_option linter.unusedSimpArgs false
set_option maxRecDepth 100000
namespace Go.Proofs.Ytldfdainhdiffaa
open Go Go.V
theorem put_reply {x : api_Reply} (ok : replyOK x) : RW (fun w => ref13_Reply w x) (replyB x) := by
  obtain ⟨h1, h2, h3, h4, h5, h6⟩ := ok
  refine (RW.u1 x.E).bind ((RW.n8 h1).bind ((RW.n8 h2).bind ((RW.cnt x.Gots.length (by omega)).bind (RW.bind ?_ ((RW.cnt x.Scans.length (by omega)).bind ?_)))))
  · refine RW.loopW _ (by simp only [List.length_map]; omega) (fun i hi => ?_) (fun w => ?_)
    · have hi' : i < x.Gots.length := by simpa using hi
      have hv := h3 _ (List.getElem_mem hi')
      refine ⟨_, by rw [List.getElem_map]; exact (RW.flag _).bind (RW.bytes _ (by omega)), fun w => ?_⟩
      have e1 : decide ((i : Int) < (x.Gots.length : Int)) = true := by simpa using hi'
      simp only [ref13_Reply_l1, e1, cond_true, geto_lt hi', Option.bind_some, Option.bind_assoc]
    · simp [ref13_Reply_l1, inrO]
  · refine RW.loop0 id _ (by simp only [List.length_map]; omega) (fun i hi p hp => ?_) (fun w => ?_)
    · have hi' : i < x.Scans.length := by simpa using hi
      obtain ⟨g1, g2⟩ := h4 _ (List.getElem_mem hi')
      have e1 : decide ((i : Int) < (x.Scans.length : Int)) = true := by simpa using hi'
      have inner : ∀ (p : List Int), p.length + ((x.Scans[i].map pairB)).flatten.length ≤ 1000000000 → loopO (ref13_Reply_l3 x.Scans[i] (i : Int)) (p, (0:Int)) = some (Sum.inl (p ++ (x.Scans[i].map pairB).flatten, IntKind.i64.wrap ((i : Int) + (1:Int)))) := by
        intro p hp
        refine RW.loop (fun w => Sum.inl (w, IntKind.i64.wrap ((i : Int) + (1:Int)))) _ (by simp only [List.length_map]; omega) (fun k hk => ?_) (fun w => ?_) p hp
        · have hk' : k < x.Scans[i].length := by simpa using hk
          obtain ⟨f1, f2⟩ := g2 _ (List.getElem_mem hk')
          refine ⟨_, by rw [List.getElem_map]; exact (RW.rank f1).bind (RW.bytes _ (by omega)), fun w => ?_⟩
          have e1 : decide ((k : Int) < (x.Scans[i].length : Int)) = true := by simpa using hk'
          simp only [ref13_Reply_l3, e1, cond_true, geto_lt hk', Option.bind_some, frank_eq f1, Option.bind_assoc]
        · simp [ref13_Reply_l3, inrO]
      rw [List.getElem_map] at hp ⊢
      simp only [pairsB, List.length_append] at hp
      have hn : ref02_Num p (IntKind.u64.wrap (x.Scans[i].length : Int)) (4:Int) = some (p ++ leB 4 x.Scans[i].length) := RW.cnt x.Scans[i].length (by omega) p (by omega)
      simp only [ref13_Reply_l2, e1, cond_true, geto_lt hi', Option.bind_some]
      show (ref02_Num _ _ _).bind _ = _
      rw [hn, Option.bind_some, inner _ (by simp only [List.length_append]; omega), pairsB, List.append_assoc]
    · simp [ref13_Reply_l2, inrO]
end Go.Proofs.Ytldfdainhdiffaa
