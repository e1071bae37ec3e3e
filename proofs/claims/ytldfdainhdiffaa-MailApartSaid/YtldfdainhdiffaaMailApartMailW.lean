/- A mail's bytes, as they are laid and as the document has them. -/
import Derived.Test.YtldfdainhdiffaaMailApartCodD
import Derived.Test.YtldfdainhdiffaaMailApartCodFC
set_option linter.unusedVariables false
set_option linter.unusedSimpArgs false
set_option maxRecDepth 100000
namespace Go.Proofs.Ytldfdainhdiffaa
open Go Go.V
def entB (x : api_Entry) : List Int := leB 8 x.Index.toNat ++ (leB 8 x.Term.toNat ++ (leB 1 (un x.Kind) ++ byB x.Data))
def snapB (x : api_Snap) : List Int := leB 8 x.Index.toNat ++ (leB 8 x.Term.toNat ++ (leB 8 x.Voters.toNat ++ byB x.Data))
def msgB (m : api_Message) : List Int := leB 1 (un m.Kind) ++ (leB 1 (un m.From) ++ (leB 1 (un m.To) ++ (leB 8 m.Term.toNat ++ (leB 8 m.Index.toNat ++ (leB 8 m.LogTerm.toNat ++ (leB 8 m.Commit.toNat ++ (flB m.OK ++ (leB 4 m.Entries.length ++ ((m.Entries.map entB).flatten ++ snapB m.S)))))))))
def entOK (x : api_Entry) : Prop := 0 ≤ x.Index ∧ 0 ≤ x.Term ∧ x.Data.length ≤ 1000000000
def msgOK (m : api_Message) : Prop := 0 ≤ m.Term ∧ 0 ≤ m.Index ∧ 0 ≤ m.LogTerm ∧ 0 ≤ m.Commit ∧ m.Entries.length ≤ 1000000000 ∧ (∀ x ∈ m.Entries, entOK x) ∧ 0 ≤ m.S.Index ∧ 0 ≤ m.S.Term ∧ 0 ≤ m.S.Voters ∧ m.S.Data.length ≤ 1000000000
theorem lay_message {m : api_Message} (ok : msgOK m) : WR (fun w => mail_message w m) (msgB m) := by
  obtain ⟨h1, h2, h3, h4, h5, h6, h7, h8, h9, h10⟩ := ok
  refine (WR.u1 _).bind ((WR.u1 _).bind ((WR.u1 _).bind ((WR.n8 h1).bind ((WR.n8 h2).bind ((WR.n8 h3).bind ((WR.n8 h4).bind ((WR.flag _).bind ((WR.cnt _ h5).bind (WR.bind ?_ ((WR.n8 h7).bind ((WR.n8 h8).bind ((WR.n8 h9).bind (WR.bytes _ h10).last))))))))))))
  refine WR.loopW _ (by simp only [List.length_map]; omega) (fun i hi => ?_) (fun w => ?_)
  · have hi' : i < m.Entries.length := by simpa using hi
    obtain ⟨f1, f2, f3⟩ := h6 _ (List.getElem_mem hi')
    refine ⟨_, by rw [List.getElem_map]; exact (WR.n8 f1).bind ((WR.n8 f2).bind ((WR.u1 _).bind (WR.bytes _ f3))), fun w => ?_⟩
    have e1 : decide ((i : Int) < (m.Entries.length : Int)) = true := by simpa using hi'
    simp only [mail_message_l1, e1, cond_true, geto_lt hi', Option.bind_some, Option.bind_assoc]
  · simp [mail_message_l1, inrO]
theorem put_message {m : api_Message} (ok : msgOK m) : RW (fun w => ref13_Message w m) (msgB m) := by
  obtain ⟨h1, h2, h3, h4, h5, h6, h7, h8, h9, h10⟩ := ok
  refine (RW.u1 _).bind ((RW.u1 _).bind ((RW.u1 _).bind ((RW.n8 h1).bind ((RW.n8 h2).bind ((RW.n8 h3).bind ((RW.n8 h4).bind ((RW.flag _).bind ((RW.cnt _ h5).bind (RW.bind ?_ ((RW.n8 h7).bind ((RW.n8 h8).bind ((RW.n8 h9).bind (RW.bytes _ h10).last))))))))))))
  refine RW.loopW _ (by simp only [List.length_map]; omega) (fun i hi => ?_) (fun w => ?_)
  · have hi' : i < m.Entries.length := by simpa using hi
    obtain ⟨f1, f2, f3⟩ := h6 _ (List.getElem_mem hi')
    refine ⟨_, by rw [List.getElem_map]; exact (RW.n8 f1).bind ((RW.n8 f2).bind ((RW.u1 _).bind (RW.bytes _ f3))), fun w => ?_⟩
    have e1 : decide ((i : Int) < (m.Entries.length : Int)) = true := by simpa using hi'
    simp only [ref13_Message_l1, e1, cond_true, geto_lt hi', Option.bind_some, Option.bind_assoc]
  · simp [ref13_Message_l1, inrO]
/-- What a mail's kind names. -/
def mbody (m : api_Mail) : List Int :=
  if m.Kind = 1 then msgB m.M else if m.Kind = 2 then holdB m.H else if m.Kind = 3 then holdB m.H ++ replyB m.R else if m.Kind = 4 then byB (cmdB m.C) else if m.Kind = 5 then idB m.ID else if m.Kind = 6 then holdB m.H else []
def mailB (m : api_Mail) : List Int := leB 1 (un m.Kind) ++ mbody m
/-- The commands that a mail may bear: whatever can be laid. -/
def mailOK (m : api_Mail) : Prop := msgOK m.M ∧ holdOK m.H ∧ replyOK m.R ∧ idOK m.ID ∧ cmdOK m.C ∧ (cmdB m.C).length ≤ 10000000
theorem mencode_eq {m : api_Mail} (ok : mailOK m) (hl : (mailB m).length ≤ 1000000000) : mail_Encode m = some (mailB m) := by
  obtain ⟨h1, h2, h3, ⟨i1, i2⟩, h5, h6⟩ := ok
  simp only [mailB, List.length_append] at hl
  have hk := WR.u1 m.Kind [] (by simp only [List.length_nil]; omega)
  simp only [List.nil_append] at hk
  have go : ∀ (f : octet_Writer → Option octet_Writer) (b : List Int), WR f b → mbody m = b → ((f { p := leB 1 (un m.Kind) }).bind fun t => (octet_Writer_Done t).bind fun t => some t) = some (mailB m) := by
    intro f b hf hb
    rw [hf.done _ (by rw [← hb]; exact hl), mailB, hb]
  have tt : ∀ {n : Int}, m.Kind = n → (m.Kind == n) = true := fun h => by simp [h]
  have ff : ∀ {n : Int}, ¬ m.Kind = n → (m.Kind == n) = false := fun h => by simp [h]
  unfold mail_Encode
  rw [hk, Option.bind_some]
  by_cases k1 : m.Kind = 1
  · simp only [tt k1, cond_true]
    exact go _ _ (lay_message h1) (by simp [mbody, k1])
  by_cases k2 : m.Kind = 2
  · simp only [ff k1, tt k2, cond_true, cond_false, Option.bind_some, mail_Encode_j0]
    exact go _ _ (lay_hold h2) (by simp [mbody, k1, k2])
  by_cases k6 : m.Kind = 6
  · simp only [ff k1, ff k2, tt k6, cond_true, cond_false, Option.bind_some, mail_Encode_j0]
    exact go _ _ (lay_hold h2) (by simp [mbody, k6])
  by_cases k3 : m.Kind = 3
  · simp only [ff k1, ff k2, ff k6, tt k3, cond_true, cond_false, Option.bind_some, mail_Encode_j0]
    have := go _ _ ((lay_hold h2).bind (lay_reply h3)) (by simp [mbody, k3])
    simpa only [Option.bind_assoc, Option.bind_some] using this
  by_cases k4 : m.Kind = 4
  · simp only [ff k1, ff k2, ff k6, ff k3, tt k4, cond_true, cond_false, Option.bind_some, mail_Encode_j0, encode_eq h5 (show _ ≤ 1000000000 by omega)]
    exact go _ _ (WR.bytes (cmdB m.C) (by omega)) (by simp [mbody, k4])
  by_cases k5 : m.Kind = 5
  · simp only [ff k1, ff k2, ff k6, ff k3, ff k4, tt k5, cond_true, cond_false, Option.bind_some, mail_Encode_j0]
    have := go _ _ ((WR.n8 i1).bind (WR.n8 i2)) (by simp [mbody, k5, idB])
    simpa only [Option.bind_assoc, Option.bind_some] using this
  · simp only [ff k1, ff k2, ff k6, ff k3, ff k4, ff k5, cond_false, Option.bind_some, mail_Encode_j0, octet_Writer_Done, mailB, mbody, k1, k2, k3, k4, k5, k6, if_false, List.append_nil]
theorem fmencode_eq {m : api_Mail} (ok : mailOK m) (hl : (mailB m).length ≤ 1000000000) : ref13_Mail m = some (mailB m) := by
  obtain ⟨h1, h2, h3, ⟨i1, i2⟩, h5, h6⟩ := ok
  simp only [mailB, List.length_append] at hl
  have hk := RW.u1 m.Kind [] (by simp only [List.length_nil]; omega)
  simp only [List.nil_append] at hk
  have go : ∀ (f : List Int → Option (List Int)) (b : List Int), RW f b → mbody m = b → ((f (leB 1 (un m.Kind))).bind fun t => some t) = some (mailB m) := by
    intro f b hf hb
    rw [hf _ (by rw [← hb]; exact hl), Option.bind_some, mailB, hb]
  have tt : ∀ {n : Int}, m.Kind = n → (m.Kind == n) = true := fun h => by simp [h]
  have ff : ∀ {n : Int}, ¬ m.Kind = n → (m.Kind == n) = false := fun h => by simp [h]
  unfold ref13_Mail
  rw [hk, Option.bind_some]
  by_cases k1 : m.Kind = 1
  · simp only [tt k1, cond_true]
    exact go _ _ (put_message h1) (by simp [mbody, k1])
  by_cases k2 : m.Kind = 2
  · simp only [ff k1, tt k2, cond_true, cond_false, Option.bind_some, ref13_Mail_j0]
    exact go _ _ (put_hold h2) (by simp [mbody, k1, k2])
  by_cases k6 : m.Kind = 6
  · simp only [ff k1, ff k2, tt k6, cond_true, cond_false, Option.bind_some, ref13_Mail_j0]
    exact go _ _ (put_hold h2) (by simp [mbody, k6])
  by_cases k3 : m.Kind = 3
  · simp only [ff k1, ff k2, ff k6, tt k3, cond_true, cond_false, Option.bind_some, ref13_Mail_j0]
    have := go _ _ ((put_hold h2).bind (put_reply h3)) (by simp [mbody, k3])
    simpa only [Option.bind_assoc, Option.bind_some] using this
  by_cases k4 : m.Kind = 4
  · simp only [ff k1, ff k2, ff k6, ff k3, tt k4, cond_true, cond_false, Option.bind_some, ref13_Mail_j0, fencode_eq h5 (show _ ≤ 1000000000 by omega)]
    exact go _ _ (RW.bytes (cmdB m.C) (by omega)) (by simp [mbody, k4])
  by_cases k5 : m.Kind = 5
  · simp only [ff k1, ff k2, ff k6, ff k3, ff k4, tt k5, cond_true, cond_false, Option.bind_some, ref13_Mail_j0]
    exact go _ _ (put_id i1 i2) (by simp [mbody, k5])
  · simp only [ff k1, ff k2, ff k6, ff k3, ff k4, ff k5, cond_false, Option.bind_some, ref13_Mail_j0, mailB, mbody, k1, k2, k3, k4, k5, k6, if_false, List.append_nil]
end Go.Proofs.Ytldfdainhdiffaa
