/- Unlike mails have unlike bytes; a Finish of another command is none: the plain law. -/
import Derived.Test.YtldfdainhdiffaaMailApartMailS
import Derived.Test.YtldfdainhdiffaaMailApartA
set_option linter.unusedVariables false
set_option linter.unusedSimpArgs false
set_option maxRecDepth 100000
namespace Go.Proofs.Ytldfdainhdiffaa
open Go Go.V
def kC (k : Int) : api_Command := { Kind := k, ID := { Session := 0, Seq := 0 }, Epoch := 0, Index := 0, E := 0, Hold := zH, Writes := [], R := zR, Shards := 0, Parts := [], Rule := zL, On := false }
def kM (k : Int) : api_Mail := { Kind := 4, M := zMsg, H := zH, ID := { Session := 0, Seq := 0 }, R := zR, C := kC k }
/-- A Finish of another command is none. -/
theorem finish_of (k : Int) (hk : 1 ≤ k ∧ k ≤ 7) : ∃ d e, ref13_Mail (kM k) = some (mailB (kM k)) ∧ mail_Decode (mailB (kM k)) = some (d, e) ∧ (e == (0:Int)) = (k == (3:Int)) := by
  have hc : cmdG (kC k) := zC_G k hk
  have hlc := cmdB_len hc
  have hok : mailOK (kM k) := ⟨zMsg_G.ok, zH_G.ok, zR_G.ok, ⟨Int.le_refl _, Int.le_refl _⟩, hc.ok, by show (cmdB (kC k)).length ≤ _; omega⟩
  have e : mailB (kM k) = leB 1 (un 4) ++ byB (cmdB (kC k)) := rfl
  have hlen : (mailB (kM k)).length ≤ 1000010 := by rw [e]; simp only [byB, List.length_append, leB_length]; omega
  have hf := fmencode_eq hok (by omega)
  by_cases h3 : k = 3
  · subst h3
    have hg : mailG (kM 3) := ⟨md 4 (by decide), zMsg_G, zH_G, zR_G, ⟨u0 8, u0 8⟩, .inl hc, fun _ => ⟨hc, rfl⟩⟩
    exact ⟨_, 0, hf, mdec_enc hg, rfl⟩
  · refine ⟨zM, 5, hf, ?_, by simp [h3]⟩
    have hn : RD (fun r => octet_Reader_Num r (1:Int)) (leB 1 (un 4)) 4 := RD.u1 ⟨by decide, by decide⟩
    have hb := RD.bytes (a := 1048576) (cmdB (kC k)) (by omega) (by decide) (cmdB_u8 hc)
    have e1 := hn.2 (byB (cmdB (kC k))) hb.1 (by rw [e] at hlen; simp only [List.length_append] at hlen; omega)
    have e2 := hb.2 [] U8s.nil (by simp only [byB, List.length_append, leB_length, List.length_nil]; omega)
    rw [List.append_nil] at e2
    have e1' : octet_Reader_Num { p := mailB (kM k), bad := false } (1:Int) = some (4, { p := byB (cmdB (kC k)), bad := false }) := by rw [e]; exact e1
    have e2' : octet_Reader_Bytes { p := byB (cmdB (kC k)), bad := false } (1048576:Int) = some (cmdB (kC k), { p := [], bad := false }) := e2
    have hkk : (cCmd (kC k)).Kind = k := by
      rcases kinds hk with h | h | h | h | h | h | h <;> subst h <;> rfl
    have c3 : ((cCmd (kC k)).Kind != (3:Int)) = true := by rw [hkk]; simp [h3]
    rw [mdecode_eq, e1', Option.bind_some]
    show ((octet_Reader_Bytes { p := byB (cmdB (kC k)), bad := false } (1048576:Int)).bind fun d => (command_Decode d.1).bind fun c => bif c.2 != (0:Int) then some (zM, 5) else bif c.1.Kind != (3:Int) then some (zM, 5) else mfin _ 4 ({ zM with C := c.1 }, d.2)) = some (zM, 5)
    rw [e2', Option.bind_some, dec_enc hc, Option.bind_some]
    simp only [bne_self_eq_false, cond_false, c3, cond_true]
theorem mailB_of {a b : api_Mail} (ha : mailG a) (hb : mailG b) (h : a.M = b.M ∧ a.Kind = b.Kind ∧ a.ID = b.ID ∧ cHold a.H = cHold b.H ∧ cReply a.R = cReply b.R ∧ cmdB a.C = cmdB b.C) : mailB a = mailB b := by
  obtain ⟨h1, h2, h3, h4, h5, h6⟩ := h
  have e1 : holdB a.H = holdB b.H := by rw [← holdB_c ha.2.2.1, ← holdB_c hb.2.2.1, h4]
  have e2 : replyB a.R = replyB b.R := by rw [← replyB_c ha.2.2.2.1, ← replyB_c hb.2.2.2.1, h5]
  simp only [mailB, mbody, h1, h2, h3, e1, e2, h6]
theorem mailApart_plain {a0 a1 : List Int} {a2 : Int} (o0 : a0.length ≤ maxLen ∧ ∀ x ∈ a0, (Lit.int .u8 x).wf = true) (o1 : a1.length ≤ maxLen ∧ ∀ x ∈ a1, (Lit.int .u8 x).wf = true) (o2 : (Lit.int .u8 a2).wf = true) : law17_MailApart a0 a1 a2 = some true := by
  unfold law17_MailApart
  simp only [mawake_eq, Option.bind_some, Bool.not_true, cond_false]
  cases h0 : decide ((a0.length : Int) > (100:Int)) with
  | true => rfl
  | false =>
  cases h1 : decide ((a1.length : Int) > (100:Int)) with
  | true => rfl
  | false =>
  have l0 : a0.length ≤ 100 := by have := of_decide_eq_false h0; omega
  have l1 : a1.length ≤ 100 := by have := of_decide_eq_false h1; omega
  obtain ⟨a, t, ha, hac, _⟩ := TP.mail _ (tape_start (l := a0) (by omega) o0.2)
  obtain ⟨b, u, hb, hbc, _⟩ := TP.mail _ (tape_start (l := a1) (by omega) o1.2)
  have ha' : law17_make1 { L := a0, I := 0 } = some (a, t) := ha
  have hb' : law17_make1 { L := a1, I := 0 } = some (b, u) := hb
  obtain ⟨q0, q1⟩ := lit_u8.1 o2
  have hk : 1 ≤ IntKind.u8.wrap ((1:Int) + Int.tmod a2 (7:Int)) ∧ IntKind.u8.wrap ((1:Int) + Int.tmod a2 (7:Int)) ≤ 7 := by
    rw [Int.tmod_eq_emod_of_nonneg q0, wrap_u8] <;> omega
  obtain ⟨d, e, f1, f2, f3⟩ := finish_of _ hk
  have hq : tr (mailB a = mailB b) = tr (a.M = b.M ∧ a.Kind = b.Kind ∧ a.ID = b.ID ∧ cHold a.H = cHold b.H ∧ cReply a.R = cReply b.R ∧ cmdB a.C = cmdB b.C) := tr_congr ⟨fun h => by
    have d1 := mdec_enc hac.1
    have d2 := mdec_enc hbc.1
    rw [h, d2, hac.2.1, hbc.2.1] at d1
    have := (Prod.mk.inj (Option.some.inj d1)).1
    subst this
    exact ⟨rfl, rfl, rfl, rfl, rfl, rfl⟩, mailB_of hac.1 hbc.1⟩
  simp only [cond_false, ha', hb', Option.bind_some]
  show ((ref13_Mail (kM (IntKind.u8.wrap ((1:Int) + Int.tmod a2 (7:Int))))).bind fun t643 => (mail_Decode t643).bind fun t653 => (mail_Encode a).bind fun t745 => (mail_Encode b).bind fun t784 => (law17_same a b).bind fun t855 => bif (sEq (toStr t745) (toStr t784)) == t855 then some ((t653.2 == (0:Int)) == ((IntKind.u8.wrap ((1:Int) + Int.tmod a2 (7:Int))) == (3:Int))) else some false) = some true
  rw [f1, Option.bind_some, f2, Option.bind_some, mencode_G hac.1, Option.bind_some, mencode_G hbc.1, Option.bind_some, same_mail hac.1 hbc.1 (mailN_ents hac), Option.bind_some, txt_tr (mailB_u8 hac.1) (mailB_u8 hbc.1), hq]
  simp [f3]
end Go.Proofs.Ytldfdainhdiffaa
