/- A mail's bytes, read back; what any bytes are read as; are two mails one? -/
import Derived.Test.YtldfdainhdiffaaMailJunkMailR
import Derived.Test.YtldfdainhdiffaaMailJunkCodU
import Derived.Test.YtldfdainhdiffaaMailJunkCodS
set_option linter.unusedVariables false
set_option linter.unusedSimpArgs false
set_option maxRecDepth 100000
namespace Go.Proofs.Ytldfdainhdiffaa
open Go Go.V
def cG (m : api_Mail) : Prop := (cmdG m.C ∨ m.C = zC) ∧ (m.Kind = 4 → cmdG m.C ∧ m.C.Kind = 3)
def mailG (m : api_Mail) : Prop := (1 ≤ m.Kind ∧ m.Kind ≤ 6) ∧ msgG m.M ∧ holdG m.H ∧ replyG m.R ∧ idG m.ID ∧ cG m
theorem zC_ok : cmdOK zC := ⟨⟨Int.le_refl _, Int.le_refl _⟩, Int.le_refl _, Int.le_refl _, zH_G.ok, zW_G.ok, zR_G.ok, Int.le_refl _, ⟨Nat.zero_le _, no_mem⟩, zL_G.ok⟩
theorem cG.ok {m : api_Mail} (h : cG m) : cmdOK m.C ∧ (cmdB m.C).length ≤ 1000000 := by
  rcases h.1 with g | g
  · exact ⟨g.ok, cmdB_len g⟩
  · rw [g]; exact ⟨zC_ok, by decide⟩
theorem mailG.ok {m : api_Mail} (g : mailG m) : mailOK m := by
  obtain ⟨_, h1, h2, h3, h4, h5⟩ := g
  exact ⟨h1.ok, h2.ok, h3.ok, ⟨h4.1.1, h4.2.1⟩, h5.ok.1, by have := h5.ok.2; omega⟩
theorem mailB_len {m : api_Mail} (g : mailG m) : (mailB m).length ≤ 400000000 := by
  obtain ⟨_, h1, h2, h3, h4, h5⟩ := g
  have a1 := msgB_len h1
  have a2 := holdB_len h2
  have a3 := replyB_len h3
  have a4 := h5.ok.2
  simp only [mailB, List.length_append, leB_length, mbody]
  split
  · omega
  split
  · omega
  split
  · simp only [List.length_append]; omega
  split
  · simp only [byB, List.length_append, leB_length]; omega
  split
  · simp only [idB, List.length_append, leB_length]; omega
  split
  · omega
  · simp only [List.length_nil]; omega
theorem mencode_G {m : api_Mail} (g : mailG m) : mail_Encode m = some (mailB m) := mencode_eq g.ok (by have := mailB_len g; omega)
def cMail (m : api_Mail) : api_Mail :=
  if m.Kind = 1 then { zM with Kind := 1, M := m.M }
  else if m.Kind = 2 then { zM with Kind := 2, H := cHold m.H }
  else if m.Kind = 3 then { zM with Kind := 3, H := cHold m.H, R := cReply m.R }
  else if m.Kind = 4 then { zM with Kind := 4, C := cCmd m.C }
  else if m.Kind = 5 then { zM with Kind := 5, ID := cId m.ID }
  else if m.Kind = 6 then { zM with Kind := 6, H := cHold m.H }
  else zM
theorem zMsg_G : msgG zMsg := ⟨u0 1, u0 1, u0 1, u0 8, u0 8, u0 8, u0 8, no_mem, u0 8, u0 8, u0 8, Nat.zero_le _, U8s.nil, Nat.zero_le _, Nat.zero_le _⟩
theorem mkinds {k : Int} (h : 1 ≤ k ∧ k ≤ 6) : k = 1 ∨ k = 2 ∨ k = 3 ∨ k = 4 ∨ k = 5 ∨ k = 6 := by omega
theorem md (k : Int) (h : 1 ≤ k ∧ k ≤ 6) : 1 ≤ k ∧ k ≤ 6 := h
theorem zcG {m : api_Mail} (h : m.C = zC) (hk : m.Kind ≠ 4) : cG m := ⟨.inr h, fun e => absurd e hk⟩
/-! ### Any bytes -/
def mdecOK (p : List Int) (m : api_Mail) (e : Int) : Prop := (e = 0 ∧ mailG m ∧ mailB m = p) ∨ (e = 5 ∧ m = zM)
theorem mfin_any {p : List Int} {k : Int} {m : api_Mail} {r : octet_Reader} (hm : mailG { m with Kind := k }) : ∃ d e, mfin p k (m, r) = some (d, e) ∧ mdecOK p d e := by
  simp only [mfin, octet_Reader_End, octet_Reader_Bad, Option.bind_some]
  cases r.bad with
  | true => exact ⟨zM, 5, rfl, .inr ⟨rfl, rfl⟩⟩
  | false =>
    simp only [Bool.not_false, cond_true, Option.bind_some]
    cases ((r.p.length : Int) == 0) with
    | false => exact ⟨zM, 5, rfl, .inr ⟨rfl, rfl⟩⟩
    | true =>
      have hl := mailB_len hm
      have e := mencode_G hm
      have e2 := slEq_eq _ p (Nat.le_trans hl (show 400000000 ≤ 1000000000 by decide))
      simp only [Bool.not_true, cond_false, e, Option.bind_some, e2]
      by_cases h : mailB { m with Kind := k } = p
      · exact ⟨_, 0, by rw [decide_eq_true h]; rfl, .inl ⟨rfl, hm, h⟩⟩
      · exact ⟨zM, 5, by rw [decide_eq_false h]; rfl, .inr ⟨rfl, rfl⟩⟩
theorem mdec_any {p : List Int} (hl : p.length ≤ 10000000) (hu : U8s p) : ∃ d e, mail_Decode p = some (d, e) ∧ mdecOK p d e := by
  obtain ⟨v, r, h1, h2, h3, h4, h5⟩ := rnum_ok (r := { p := p, bad := false }) ⟨by simp only; omega, hu⟩ 1 (by decide)
  have n1 : ((1 : Nat) : Int) = 1 := rfl
  rw [n1] at h1
  rw [pw1] at h3
  simp only at h5
  have w : IntKind.u8.wrap v = v := by rw [wrap_u8] <;> omega
  have bad : ∃ d e, some (zM, (5:Int)) = some (d, e) ∧ mdecOK p d e := ⟨zM, 5, rfl, .inr ⟨rfl, rfl⟩⟩
  rw [mdecode_eq, h1, Option.bind_some]
  simp only [w]
  by_cases hk : 1 ≤ v ∧ v ≤ 6
  · have hold2 : ∀ k : Int, (1 ≤ k ∧ k ≤ 6) → k ≠ 4 → ∃ d e, (mb2 r).bind (mfin p k) = some (d, e) ∧ mdecOK p d e := by
      intro k hk h4'
      obtain ⟨a, r', g1, g2, g3⟩ := TT.hold r h4
      simp only [mb2, g1, Option.bind_some]
      exact mfin_any ⟨hk, zMsg_G, g2, zR_G, ⟨u0 8, u0 8⟩, zcG rfl h4'⟩
    rcases mkinds hk with k | k | k | k | k | k <;> subst k
    · obtain ⟨a, r', g1, g2, g3⟩ := message_ok r h4 (by omega)
      show ∃ d e, (mb1 r).bind (mfin p 1) = some (d, e) ∧ mdecOK p d e
      simp only [mb1, g1, Option.bind_some]
      exact mfin_any ⟨md 1 (by decide), g2, zH_G, zR_G, ⟨u0 8, u0 8⟩, zcG rfl (show (1:Int) ≠ 4 by decide)⟩
    · exact hold2 2 (by decide) (by decide)
    · obtain ⟨a, r', g1, g2, g3⟩ := TT.hold r h4
      obtain ⟨b, r2, q1, q2, q3⟩ := TT.reply r' g3
      show ∃ d e, (mb3 r).bind (mfin p 3) = some (d, e) ∧ mdecOK p d e
      simp only [mb3, g1, q1, Option.bind_some]
      exact mfin_any ⟨md 3 (by decide), zMsg_G, g2, q2, ⟨u0 8, u0 8⟩, zcG rfl (show (3:Int) ≠ 4 by decide)⟩
    · obtain ⟨d, r', g1, g2, g3, g4⟩ := bytes_ok (a := 1048576) (by decide) (by decide) r h4
      obtain ⟨c, e, q1, q2⟩ := dec_any (p := d) (by omega) g2.2
      show ∃ d e, ((octet_Reader_Bytes r (1048576:Int)).bind fun d => (command_Decode d.1).bind fun c => bif c.2 != (0:Int) then some (zM, 5) else bif c.1.Kind != (3:Int) then some (zM, 5) else mfin p 4 ({ zM with C := c.1 }, d.2)) = some (d, e) ∧ mdecOK p d e
      simp only [g1, q1, Option.bind_some]
      rcases q2 with ⟨rfl, k2, k3⟩ | ⟨rfl, k2⟩
      · cases hk3 : c.Kind != (3:Int) with
        | true => exact bad
        | false =>
          have hk3' : c.Kind = 3 := by simpa using hk3
          exact mfin_any ⟨md 4 (by decide), zMsg_G, zH_G, zR_G, ⟨u0 8, u0 8⟩, .inl k2, fun _ => ⟨k2, hk3'⟩⟩
      · exact bad
    · obtain ⟨a, r', g1, g2, g3⟩ := TT.id r h4
      show ∃ d e, (mb5 r).bind (mfin p 5) = some (d, e) ∧ mdecOK p d e
      simp only [mb5, g1, Option.bind_some]
      exact mfin_any ⟨md 5 (by decide), zMsg_G, zH_G, zR_G, g2, zcG rfl (show (5:Int) ≠ 4 by decide)⟩
    · exact hold2 6 (by decide) (by decide)
  · have ff : ∀ n : Int, 1 ≤ n → n ≤ 6 → (v == n) = false := fun n h h' => by simp; omega
    simp only [ff 1 (by decide) (by decide), ff 2 (by decide) (by decide), ff 3 (by decide) (by decide), ff 4 (by decide) (by decide), ff 5 (by decide) (by decide), ff 6 (by decide) (by decide), cond_false]
    exact bad
end Go.Proofs.Ytldfdainhdiffaa
