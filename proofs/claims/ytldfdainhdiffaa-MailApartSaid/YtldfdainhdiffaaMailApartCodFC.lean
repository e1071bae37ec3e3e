/- A command's bytes, as the document has them. -/
import Derived.Test.YtldfdainhdiffaaMailApartCodFP
import Derived.Test.YtldfdainhdiffaaMailApartCodWC
set_option linter.unusedVariables false
set_option linter.unusedSimpArgs false
set_option maxRecDepth 100000
namespace Go.Proofs.Ytldfdainhdiffaa
open Go Go.V
theorem put_writes {l : List api_Write} (ok : writesOK l) : RW (fun w => ref13_Writes w l) (writesB l) := by
  obtain ⟨h1, h2⟩ := ok
  refine (RW.cnt l.length (by omega)).bind ?_
  refine RW.loopW _ (by simp only [List.length_map]; omega) (fun i hi => ?_) (fun w => ?_)
  · have hi' : i < l.length := by simpa using hi
    obtain ⟨f1, f2⟩ := h2 _ (List.getElem_mem hi')
    refine ⟨_, by rw [List.getElem_map]; exact (RW.rank f1).bind ((RW.flag _).bind (RW.bytes _ (by omega))), fun w => ?_⟩
    have e1 : decide ((i : Int) < (l.length : Int)) = true := by simpa using hi'
    simp only [ref13_Writes_l0, e1, cond_true, geto_lt hi', Option.bind_some, frank_eq f1, Option.bind_assoc]
  · simp [ref13_Writes_l0, inrO]
theorem put_rule {x : api_Rule} (ok : ruleOK x) : RW (fun w => ref13_Rule w x) (ruleB x) := by
  obtain ⟨h1, h2, h3, h4⟩ := ok
  refine RW.of (g := fun w => (ref02_Num w x.ID (8:Int)).bind fun t => (ref02_Num t (IntKind.u64.wrap x.From) (1:Int)).bind fun t => (ref02_Num t (IntKind.u64.wrap x.To) (1:Int)).bind fun t => ((ref01_Rank x.Lo).bind fun r => ref02_Num t r (8:Int)).bind fun t => ((ref01_Rank x.Hi).bind fun r => ref02_Num t r (8:Int)).bind fun t => (ref02_Num t x.Authority (8:Int)).bind fun t => (ref02_Num t (IntKind.u64.wrap x.Quota) (4:Int)).bind fun t => some t) (fun w => ?_) ?_
  · simp only [ref13_Rule, frank_eq h2, frank_eq h3, Option.bind_some]
  · exact (RW.n8 h1).bind ((RW.u1 _).bind ((RW.u1 _).bind ((RW.rank h2).bind ((RW.rank h3).bind ((RW.n8 h4).bind (RW.u4 _).last)))))
theorem fencode_eq {c : api_Command} (ok : cmdOK c) (hl : (cmdB c).length ≤ 1000000000) : ref13_Command c = some (cmdB c) := by
  obtain ⟨⟨i1, i2⟩, h1, h2, h3, h4, h5, h6, ⟨h7, h8⟩, h9⟩ := ok
  simp only [cmdB, List.length_append] at hl
  have hk := RW.u1 c.Kind [] (by simp only [List.length_nil]; omega)
  simp only [List.nil_append] at hk
  have hid : RW (fun w => ref12_ID w c.ID) (idB c.ID) := put_id i1 i2
  have go : ∀ (f : List Int → Option (List Int)) (b : List Int), RW f b → bodyB c = b → ((f (leB 1 (un c.Kind))).bind fun t => some t) = some (cmdB c) := by
    intro f b hf hb
    rw [hf _ (by rw [← hb]; exact hl), Option.bind_some, cmdB, hb]
  have tt : ∀ {n : Int}, c.Kind = n → (c.Kind == n) = true := fun h => by simp [h]
  have ff : ∀ {n : Int}, ¬ c.Kind = n → (c.Kind == n) = false := fun h => by simp [h]
  unfold ref13_Command
  rw [hk, Option.bind_some]
  by_cases k1 : c.Kind = 1
  · simp only [tt k1, cond_true]
    exact go _ _ (RW.n8 h1) (by simp [bodyB, k1])
  by_cases k2 : c.Kind = 2
  · simp only [ff k1, tt k2, cond_true, cond_false]
    exact go _ _ (put_hold h3) (by simp [bodyB, k1, k2])
  by_cases k3 : c.Kind = 3
  · simp only [ff k1, ff k2, tt k3, cond_true, cond_false]
    have := go _ _ (hid.bind ((RW.u1 c.E).bind ((RW.n8 h1).bind ((RW.n8 h2).bind (put_writes h4))))) (by simp [bodyB, k1, k2, k3])
    simpa only [Option.bind_assoc, Option.bind_some] using this
  by_cases k4 : c.Kind = 4
  · simp only [ff k1, ff k2, ff k3, tt k4, cond_true, cond_false]
    have hloop : RW (fun w => loopO (ref13_Command_l1 c) (w, (0:Int))) (c.Parts.map partB).flatten := by
      refine RW.loopW _ (by simp only [List.length_map]; omega) (fun i hi => ?_) (fun w => ?_)
      · have hi' : i < c.Parts.length := by simpa using hi
        refine ⟨_, by rw [List.getElem_map]; exact (RW.u1 _).bind (put_writes (h8 _ (List.getElem_mem hi'))), fun w => ?_⟩
        have e1 : decide ((i : Int) < (c.Parts.length : Int)) = true := by simpa using hi'
        simp only [ref13_Command_l1, e1, cond_true, geto_lt hi', Option.bind_some, Option.bind_assoc]
      · simp [ref13_Command_l1, inrO]
    have := go _ _ (hid.bind ((RW.n8 h1).bind ((RW.n2 h6).bind ((RW.cnt c.Parts.length (by omega)).bind (hloop.bind (put_reply h5)))))) (by simp [bodyB, k1, k2, k3, k4])
    have hj : ref13_Command_j0 c = fun y => (ref13_Reply y c.R).bind fun t => some t := rfl
    rw [hj]
    simpa only [Option.bind_assoc, Option.bind_some] using this
  by_cases k5 : c.Kind = 5
  · simp only [ff k1, ff k2, ff k3, ff k4, tt k5, cond_true, cond_false]
    have := go _ _ hid (by simp [bodyB, k1, k2, k3, k4, k5])
    simpa only [Option.bind_assoc, Option.bind_some] using this
  by_cases k6 : c.Kind = 6
  · simp only [ff k1, ff k2, ff k3, ff k4, ff k5, tt k6, cond_true, cond_false]
    have := go _ _ ((put_rule h9).bind (RW.flag c.On)) (by simp [bodyB, k1, k2, k3, k4, k5, k6])
    simpa only [Option.bind_assoc, Option.bind_some] using this
  by_cases k7 : c.Kind = 7
  · simp only [ff k1, ff k2, ff k3, ff k4, ff k5, ff k6, tt k7, cond_true, cond_false]
    have := go _ _ (hid.bind ((RW.n8 h1).bind ((put_rule h9).bind ((put_writes h4).bind (put_reply h5))))) (by simp [bodyB, k1, k2, k3, k4, k5, k6, k7])
    simpa only [Option.bind_assoc, Option.bind_some] using this
  · simp only [ff k1, ff k2, ff k3, ff k4, ff k5, ff k6, ff k7, cond_false, Option.bind_some, cmdB, bodyB, k1, k2, k3, k4, k5, k6, k7, if_false, List.append_nil]
end Go.Proofs.Ytldfdainhdiffaa
