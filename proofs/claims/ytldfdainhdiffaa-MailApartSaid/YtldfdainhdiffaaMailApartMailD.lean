/- A mail's bytes, read back; what any bytes are read as; are two mails one? -/
import Derived.Test.YtldfdainhdiffaaMailApartMailR
import Derived.Test.YtldfdainhdiffaaMailApartCodU
import Derived.Test.YtldfdainhdiffaaMailApartCodS
set_option linter.unusedVariables false
set_option linter.unusedSimpArgs false
set_option maxRecDepth 100000
namespace Go.Proofs.Ytldfdainhdiffaa
open Go Go.V
def cG (m : api_Mail) : Prop := (cmdG m.C ∨ m.C = zC) ∧ (m.Kind = 4 → cmdG m.C ∧ m.C.Kind = 3)
def mailG (m : api_Mail) : Prop := (1 ≤ m.Kind ∧ m.Kind ≤ 6) ∧ msgG m.M ∧ holdG m.H ∧ replyG m.R ∧ idG m.ID ∧ cG m
theorem zC_ok : cmdOK zC := ⟨⟨Int.le_refl _, Int.le_refl _⟩, Int.le_refl _, Int.le_refl _, zH_G.ok, zW_G.ok, zR_G.ok, Int.le_refl _, ⟨Nat.zero_le _, no_mem⟩, zL_G.ok⟩
theorem cG.ok {m : api_Mail} (h : cG m) : cmdOK m.C ∧ (cmdB m.C).length ≤ 1000000 := by
  rcases h.1 with g | g
  · exact ⟨g.ok, cmdB_len g⟩
  · rw [g]; exact ⟨zC_ok, by decide⟩
theorem mailG.ok {m : api_Mail} (g : mailG m) : mailOK m := by
  obtain ⟨_, h1, h2, h3, h4, h5⟩ := g
  exact ⟨h1.ok, h2.ok, h3.ok, ⟨h4.1.1, h4.2.1⟩, h5.ok.1, by have := h5.ok.2; omega⟩
theorem mailB_len {m : api_Mail} (g : mailG m) : (mailB m).length ≤ 400000000 := by
  obtain ⟨_, h1, h2, h3, h4, h5⟩ := g
  have a1 := msgB_len h1
  have a2 := holdB_len h2
  have a3 := replyB_len h3
  have a4 := h5.ok.2
  simp only [mailB, List.length_append, leB_length, mbody]
  split
  · omega
  split
  · omega
  split
  · simp only [List.length_append]; omega
  split
  · simp only [byB, List.length_append, leB_length]; omega
  split
  · simp only [idB, List.length_append, leB_length]; omega
  split
  · omega
  · simp only [List.length_nil]; omega
theorem mencode_G {m : api_Mail} (g : mailG m) : mail_Encode m = some (mailB m) := mencode_eq g.ok (by have := mailB_len g; omega)
def cMail (m : api_Mail) : api_Mail :=
  if m.Kind = 1 then { zM with Kind := 1, M := m.M }
  else if m.Kind = 2 then { zM with Kind := 2, H := cHold m.H }
  else if m.Kind = 3 then { zM with Kind := 3, H := cHold m.H, R := cReply m.R }
  else if m.Kind = 4 then { zM with Kind := 4, C := cCmd m.C }
  else if m.Kind = 5 then { zM with Kind := 5, ID := cId m.ID }
  else if m.Kind = 6 then { zM with Kind := 6, H := cHold m.H }
  else zM
theorem zMsg_G : msgG zMsg := ⟨u0 1, u0 1, u0 1, u0 8, u0 8, u0 8, u0 8, no_mem, u0 8, u0 8, u0 8, Nat.zero_le _, U8s.nil, Nat.zero_le _, Nat.zero_le _⟩
theorem mkinds {k : Int} (h : 1 ≤ k ∧ k ≤ 6) : k = 1 ∨ k = 2 ∨ k = 3 ∨ k = 4 ∨ k = 5 ∨ k = 6 := by omega
theorem md (k : Int) (h : 1 ≤ k ∧ k ≤ 6) : 1 ≤ k ∧ k ≤ 6 := h
theorem zcG {m : api_Mail} (h : m.C = zC) (hk : m.Kind ≠ 4) : cG m := ⟨.inr h, fun e => absurd e hk⟩
theorem cCmd_kind {c : api_Command} (g : cmdG c) (h : c.Kind = 3) : (cCmd c).Kind = 3 := by simp only [cCmd, h, if_true, if_false, Int.reduceEq]
theorem cMail_G {m : api_Mail} (g : mailG m) : mailG (cMail m) := by
  obtain ⟨hk, h1, h2, h3, h4, h5⟩ := g
  rcases mkinds hk with k | k | k | k | k | k <;> simp only [cMail, k] <;> simp only [if_true, if_false, Int.reduceEq]
  · exact ⟨md 1 (by decide), h1, zH_G, zR_G, ⟨u0 8, u0 8⟩, zcG rfl (show (1:Int) ≠ 4 by decide)⟩
  · exact ⟨md 2 (by decide), zMsg_G, holdG_c h2, zR_G, ⟨u0 8, u0 8⟩, zcG rfl (show (2:Int) ≠ 4 by decide)⟩
  · exact ⟨md 3 (by decide), zMsg_G, holdG_c h2, replyG_c h3, ⟨u0 8, u0 8⟩, zcG rfl (show (3:Int) ≠ 4 by decide)⟩
  · have hc := h5.2 k
    exact ⟨md 4 (by decide), zMsg_G, zH_G, zR_G, ⟨u0 8, u0 8⟩, .inl (cCmd_G hc.1), fun _ => ⟨cCmd_G hc.1, cCmd_kind hc.1 hc.2⟩⟩
  · exact ⟨md 5 (by decide), zMsg_G, zH_G, zR_G, h4, zcG rfl (show (5:Int) ≠ 4 by decide)⟩
  · exact ⟨md 6 (by decide), zMsg_G, holdG_c h2, zR_G, ⟨u0 8, u0 8⟩, zcG rfl (show (6:Int) ≠ 4 by decide)⟩
theorem mailB_c {m : api_Mail} (g : mailG m) : mailB (cMail m) = mailB m := by
  obtain ⟨hk, h1, h2, h3, h4, h5⟩ := g
  rcases mkinds hk with k | k | k | k | k | k
  · simp only [mailB, mbody, cMail, k, if_true, if_false, Int.reduceEq]
  · simp only [mailB, mbody, cMail, k, if_true, if_false, Int.reduceEq, holdB_c h2]
  · simp only [mailB, mbody, cMail, k, if_true, if_false, Int.reduceEq, holdB_c h2, replyB_c h3]
  · simp only [mailB, mbody, cMail, k, if_true, if_false, Int.reduceEq, cmdB_c (h5.2 k).1]
  · simp only [mailB, mbody, cMail, k, if_true, if_false, Int.reduceEq]; rfl
  · simp only [mailB, mbody, cMail, k, if_true, if_false, Int.reduceEq, holdB_c h2]
theorem mfin_ok {p : List Int} {k : Int} {m : api_Mail} (hm : mailG { m with Kind := k }) (hp : mailB { m with Kind := k } = p) : mfin p k (m, { p := [], bad := false }) = some ({ m with Kind := k }, 0) := by
  have hl := mailB_len hm
  simp only [mfin, octet_Reader_End, octet_Reader_Bad, Option.bind_some, Bool.not_false, cond_true, List.length_nil]
  have e := mencode_G hm
  rw [hp] at hl e
  have e2 : slices_Equal_byte_byte p p = some true := by rw [slEq_eq p p (by omega), decide_eq_true rfl]
  rw [e, Option.bind_some, e2]
  rfl
theorem mdec_enc {m : api_Mail} (g : mailG m) : mail_Decode (mailB m) = some (cMail m, 0) := by
  have hc := cMail_G g
  have hB := mailB_c g
  have hlen := mailB_len g
  obtain ⟨hk, h1, h2, h3, h4, h5⟩ := g
  have hn : RD (fun r => octet_Reader_Num r (1:Int)) (leB 1 (un m.Kind)) m.Kind := RD.u1 ⟨by omega, by rw [pw1]; omega⟩
  have wk : IntKind.u8.wrap m.Kind = m.Kind := by rw [wrap_u8] <;> omega
  have hl : (mailB m).length = 1 + (mbody m).length := by simp only [mailB, List.length_append, leB_length]
  have go : ∀ (f : octet_Reader → Option (api_Mail × octet_Reader)) (d : api_Mail), RD f (mbody m) d → cMail m = { d with Kind := m.Kind } → octet_Reader_Num { p := mailB m, bad := false } (1:Int) = some (m.Kind, { p := mbody m, bad := false }) ∧ (f { p := mbody m, bad := false }).bind (mfin (mailB m) m.Kind) = some (cMail m, 0) := by
    intro f d hf hd
    have e1 := hn.2 (mbody m) hf.1 (by rw [leB_length]; omega)
    have e2 := hf.2 [] U8s.nil (by rw [List.length_nil]; omega)
    rw [List.append_nil] at e2
    refine ⟨e1, ?_⟩
    rw [e2, Option.bind_some, mfin_ok (by rw [← hd]; exact hc) (by rw [← hd]; exact hB), hd]
  rcases mkinds hk with k | k | k | k | k | k
  · have := go mb1 { zM with M := m.M } (by
      have e : mbody m = msgB m.M := by simp only [mbody, k, if_true]
      rw [e]; exact RD.map (RD.message h1) fun r => rfl) (by simp only [cMail, k, if_true])
    rw [mdecode_eq, this.1, Option.bind_some, wk, k]
    rw [k] at this
    exact this.2
  · have := go mb2 { zM with H := cHold m.H } (by
      have e : mbody m = holdB m.H := by simp only [mbody, k, if_true, if_false, Int.reduceEq]
      rw [e]; exact RD.map (RD.hold h2) fun r => rfl) (by simp only [cMail, k, if_true, if_false, Int.reduceEq])
    rw [mdecode_eq, this.1, Option.bind_some, wk, k]
    rw [k] at this
    exact this.2
  · have := go mb3 { zM with H := cHold m.H, R := cReply m.R } (by
      have e : mbody m = holdB m.H ++ replyB m.R := by simp only [mbody, k, if_true, if_false, Int.reduceEq]
      rw [e]
      refine RD.bind (RD.hold h2) ?_
      dsimp only
      exact RD.map (RD.reply h3) fun r => rfl) (by simp only [cMail, k, if_true, if_false, Int.reduceEq])
    rw [mdecode_eq, this.1, Option.bind_some, wk, k]
    rw [k] at this
    exact this.2
  · have hcc := h5.2 k
    have e : mbody m = byB (cmdB m.C) := by simp only [mbody, k, if_true, if_false, Int.reduceEq]
    have hlc := cmdB_len hcc.1
    have hb := RD.bytes (a := 1048576) (cmdB m.C) (by omega) (by decide) (cmdB_u8 hcc.1)
    have e1 := hn.2 (mbody m) (by rw [e]; exact hb.1) (by rw [leB_length]; omega)
    have e2 := hb.2 [] U8s.nil (by rw [← e, List.length_nil]; omega)
    rw [List.append_nil, ← e] at e2
    have e1' : octet_Reader_Num { p := mailB m, bad := false } (1:Int) = some (m.Kind, { p := mbody m, bad := false }) := e1
    have e2' : octet_Reader_Bytes { p := mbody m, bad := false } (1048576:Int) = some (cmdB m.C, { p := [], bad := false }) := e2
    have hd : cMail m = { ({ zM with C := cCmd m.C } : api_Mail) with Kind := m.Kind } := by simp only [cMail, k, if_true, if_false, Int.reduceEq]
    have hfin := mfin_ok (p := mailB m) (k := m.Kind) (m := { zM with C := cCmd m.C }) (by rw [← hd]; exact hc) (by rw [← hd]; exact hB)
    rw [← hd] at hfin
    rw [mdecode_eq, e1', Option.bind_some, wk]
    have kk : ∀ n : Int, n ≠ 4 → (m.Kind == n) = false := fun n hn => by rw [k]; simp; omega
    have k4 : (m.Kind == (4:Int)) = true := by rw [k]; rfl
    have c3 : ((cCmd m.C).Kind != (3:Int)) = false := by rw [cCmd_kind hcc.1 hcc.2]; rfl
    simp only [kk 1 (by decide), kk 2 (by decide), kk 6 (by decide), kk 3 (by decide), k4, cond_false, cond_true, e2', Option.bind_some, dec_enc hcc.1, c3, bne_self_eq_false, hfin]
  · have := go mb5 { zM with ID := cId m.ID } (by
      have e : mbody m = idB m.ID := by simp only [mbody, k, if_true, if_false, Int.reduceEq]
      rw [e]; exact RD.map (RD.id h4) fun r => rfl) (by simp only [cMail, k, if_true, if_false, Int.reduceEq])
    rw [mdecode_eq, this.1, Option.bind_some, wk, k]
    rw [k] at this
    exact this.2
  · have := go mb2 { zM with H := cHold m.H } (by
      have e : mbody m = holdB m.H := by simp only [mbody, k, if_true, if_false, Int.reduceEq]
      rw [e]; exact RD.map (RD.hold h2) fun r => rfl) (by simp only [cMail, k, if_true, if_false, Int.reduceEq])
    rw [mdecode_eq, this.1, Option.bind_some, wk, k]
    rw [k] at this
    exact this.2
/-! ### Any bytes -/
end Go.Proofs.Ytldfdainhdiffaa
