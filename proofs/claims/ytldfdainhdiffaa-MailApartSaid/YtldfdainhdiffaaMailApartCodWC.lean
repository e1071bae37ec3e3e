/- The bytes of a command. -/
import Derived.Test.YtldfdainhdiffaaMailApartCodWP
set_option linter.unusedVariables false
set_option linter.unusedSimpArgs false
set_option maxRecDepth 100000
namespace Go.Proofs.Ytldfdainhdiffaa
open Go Go.V
def writeB (x : api_Write) : List Int := rkB x.At ++ (flB x.Del ++ byB x.Val)
def writesB (l : List api_Write) : List Int := leB 4 l.length ++ (l.map writeB).flatten
def writeOK (x : api_Write) : Prop := isF x.At ∧ x.Val.length ≤ 1000000
def writesOK (l : List api_Write) : Prop := l.length ≤ 1000000 ∧ ∀ x ∈ l, writeOK x
theorem lay_writes {l : List api_Write} (ok : writesOK l) : WR (fun w => command_writes w l) (writesB l) := by
  obtain ⟨h1, h2⟩ := ok
  refine (WR.cnt l.length (by omega)).bind ?_
  refine WR.loopW _ (by simp only [List.length_map]; omega) (fun i hi => ?_) (fun w => ?_)
  · have hi' : i < l.length := by simpa using hi
    obtain ⟨f1, f2⟩ := h2 _ (List.getElem_mem hi')
    refine ⟨_, by rw [List.getElem_map]; exact (WR.rank f1).bind ((WR.flag _).bind (WR.bytes _ (by omega))), fun w => ?_⟩
    have e1 : decide ((i : Int) < (l.length : Int)) = true := by simpa using hi'
    simp only [command_writes_l0, e1, cond_true, geto_lt hi', Option.bind_some, rank_eq f1, Option.bind_assoc]
  · simp [command_writes_l0, inrO]
def ruleB (x : api_Rule) : List Int := leB 8 x.ID.toNat ++ (leB 1 (un x.From) ++ (leB 1 (un x.To) ++ (rkB x.Lo ++ (rkB x.Hi ++ (leB 8 x.Authority.toNat ++ leB 4 (un x.Quota))))))
def ruleOK (x : api_Rule) : Prop := 0 ≤ x.ID ∧ isF x.Lo ∧ isF x.Hi ∧ 0 ≤ x.Authority
theorem lay_rule {x : api_Rule} (ok : ruleOK x) : WR (fun w => command_layRule w x) (ruleB x) := by
  obtain ⟨h1, h2, h3, h4⟩ := ok
  refine WR.of (g := fun w => (octet_Writer_Num w x.ID (8:Int)).bind fun t => (octet_Writer_Num t (IntKind.u64.wrap x.From) (1:Int)).bind fun t => (octet_Writer_Num t (IntKind.u64.wrap x.To) (1:Int)).bind fun t => ((number_Rank x.Lo).bind fun r => octet_Writer_Num t r (8:Int)).bind fun t => ((number_Rank x.Hi).bind fun r => octet_Writer_Num t r (8:Int)).bind fun t => (octet_Writer_Num t x.Authority (8:Int)).bind fun t => (octet_Writer_Num t (IntKind.u64.wrap x.Quota) (4:Int)).bind fun t => some t) (fun w => ?_) ?_
  · simp only [command_layRule, rank_eq h2, rank_eq h3, Option.bind_some]
  · exact (WR.n8 h1).bind ((WR.u1 _).bind ((WR.u1 _).bind ((WR.rank h2).bind ((WR.rank h3).bind ((WR.n8 h4).bind (WR.u4 _).last)))))
def partB (x : api_Part) : List Int := leB 1 (un x.Shard) ++ writesB x.Writes
def idOK (x : api_ID) : Prop := 0 ≤ x.Session ∧ 0 ≤ x.Seq
/-- What a command's kind names. -/
def bodyB (c : api_Command) : List Int :=
  if c.Kind = 1 then leB 8 c.Epoch.toNat
  else if c.Kind = 2 then holdB c.Hold
  else if c.Kind = 3 then idB c.ID ++ (leB 1 (un c.E) ++ (leB 8 c.Epoch.toNat ++ (leB 8 c.Index.toNat ++ writesB c.Writes)))
  else if c.Kind = 4 then idB c.ID ++ (leB 8 c.Epoch.toNat ++ (leB 2 c.Shards.toNat ++ (leB 4 c.Parts.length ++ ((c.Parts.map partB).flatten ++ replyB c.R))))
  else if c.Kind = 5 then idB c.ID
  else if c.Kind = 6 then ruleB c.Rule ++ flB c.On
  else if c.Kind = 7 then idB c.ID ++ (leB 8 c.Epoch.toNat ++ (ruleB c.Rule ++ (writesB c.Writes ++ replyB c.R)))
  else []
def cmdB (c : api_Command) : List Int := leB 1 (un c.Kind) ++ bodyB c
def cmdOK (c : api_Command) : Prop := idOK c.ID ∧ 0 ≤ c.Epoch ∧ 0 ≤ c.Index ∧ holdOK c.Hold ∧ writesOK c.Writes ∧ replyOK c.R ∧ 0 ≤ c.Shards ∧ (c.Parts.length ≤ 1000000 ∧ ∀ x ∈ c.Parts, writesOK x.Writes) ∧ ruleOK c.Rule
theorem WR.done {f : octet_Writer → Option octet_Writer} {b : List Int} (h : WR f b) (p : List Int) (hp : p.length + b.length ≤ 1000000000) : ((f { p := p }).bind fun t => (octet_Writer_Done t).bind fun t => some t) = some (p ++ b) := by
  rw [h p hp]; rfl
theorem encode_eq {c : api_Command} (ok : cmdOK c) (hl : (cmdB c).length ≤ 1000000000) : command_Encode c = some (cmdB c) := by
  obtain ⟨⟨i1, i2⟩, h1, h2, h3, h4, h5, h6, ⟨h7, h8⟩, h9⟩ := ok
  simp only [cmdB, List.length_append] at hl
  have hk := WR.u1 c.Kind [] (by simp only [List.length_nil]; omega)
  simp only [List.nil_append] at hk
  have hid : WR (fun w => (octet_Writer_Num w c.ID.Session (8:Int)).bind fun t => (octet_Writer_Num t c.ID.Seq (8:Int)).bind fun t => some t) (idB c.ID) := (WR.n8 i1).bind (WR.n8 i2).last
  have go : ∀ (f : octet_Writer → Option octet_Writer) (b : List Int), WR f b → bodyB c = b → ((f { p := leB 1 (un c.Kind) }).bind fun t => (octet_Writer_Done t).bind fun t => some t) = some (cmdB c) := by
    intro f b hf hb
    rw [hf.done _ (by rw [← hb]; exact hl), cmdB, hb]
  have tt : ∀ {n : Int}, c.Kind = n → (c.Kind == n) = true := fun h => by simp [h]
  have ff : ∀ {n : Int}, ¬ c.Kind = n → (c.Kind == n) = false := fun h => by simp [h]
  unfold command_Encode
  rw [hk, Option.bind_some]
  by_cases k1 : c.Kind = 1
  · simp only [tt k1, cond_true]
    exact go _ _ (WR.n8 h1) (by simp [bodyB, k1])
  by_cases k2 : c.Kind = 2
  · simp only [ff k1, tt k2, cond_true, cond_false]
    exact go _ _ (lay_hold h3) (by simp [bodyB, k1, k2])
  by_cases k3 : c.Kind = 3
  · simp only [ff k1, ff k2, tt k3, cond_true, cond_false]
    have := go _ _ (hid.bind ((WR.u1 c.E).bind ((WR.n8 h1).bind ((WR.n8 h2).bind (lay_writes h4))))) (by simp [bodyB, k1, k2, k3])
    simpa only [Option.bind_assoc, Option.bind_some] using this
  by_cases k4 : c.Kind = 4
  · simp only [ff k1, ff k2, ff k3, tt k4, cond_true, cond_false]
    have hloop : WR (fun w => loopO (command_Encode_l1 c) (w, (0:Int))) (c.Parts.map partB).flatten := by
      refine WR.loopW _ (by simp only [List.length_map]; omega) (fun i hi => ?_) (fun w => ?_)
      · have hi' : i < c.Parts.length := by simpa using hi
        refine ⟨_, by rw [List.getElem_map]; exact (WR.u1 _).bind (lay_writes (h8 _ (List.getElem_mem hi'))), fun w => ?_⟩
        have e1 : decide ((i : Int) < (c.Parts.length : Int)) = true := by simpa using hi'
        simp only [command_Encode_l1, e1, cond_true, geto_lt hi', Option.bind_some, Option.bind_assoc]
      · simp [command_Encode_l1, inrO]
    have := go _ _ (hid.bind ((WR.n8 h1).bind ((WR.n2 h6).bind ((WR.cnt c.Parts.length (by omega)).bind (hloop.bind (lay_reply h5)))))) (by simp [bodyB, k1, k2, k3, k4])
    have hj : command_Encode_j0 c = fun y => (command_LayReply y c.R).bind fun t => (octet_Writer_Done t).bind fun t => some t := rfl
    rw [hj]
    simpa only [Option.bind_assoc, Option.bind_some] using this
  by_cases k5 : c.Kind = 5
  · simp only [ff k1, ff k2, ff k3, ff k4, tt k5, cond_true, cond_false]
    have := go _ _ hid (by simp [bodyB, k1, k2, k3, k4, k5])
    simpa only [Option.bind_assoc, Option.bind_some] using this
  by_cases k6 : c.Kind = 6
  · simp only [ff k1, ff k2, ff k3, ff k4, ff k5, tt k6, cond_true, cond_false]
    have := go _ _ ((lay_rule h9).bind (WR.flag c.On)) (by simp [bodyB, k1, k2, k3, k4, k5, k6])
    simpa only [Option.bind_assoc, Option.bind_some] using this
  by_cases k7 : c.Kind = 7
  · simp only [ff k1, ff k2, ff k3, ff k4, ff k5, ff k6, tt k7, cond_true, cond_false]
    have := go _ _ (hid.bind ((WR.n8 h1).bind ((lay_rule h9).bind ((lay_writes h4).bind (lay_reply h5))))) (by simp [bodyB, k1, k2, k3, k4, k5, k6, k7])
    simpa only [Option.bind_assoc, Option.bind_some] using this
  · simp only [ff k1, ff k2, ff k3, ff k4, ff k5, ff k6, ff k7, cond_false, octet_Writer_Done, Option.bind_some, cmdB, bodyB, k1, k2, k3, k4, k5, k6, k7, if_false, List.append_nil]
end Go.Proofs.Ytldfdainhdiffaa
