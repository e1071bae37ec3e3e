/- What any bytes are read as has just these bytes. -/
import Derived.Test.YtldfdainhdiffaaMailJunkCodD
set_option linter.unusedVariables false
set_option linter.unusedSimpArgs false
set_option maxRecDepth 100000
namespace Go.Proofs.Ytldfdainhdiffaa
open Go Go.V
def kG (k : Int) (c : api_Command) : Prop := cmdG { c with Kind := k }
theorem TT.b1 : TT b1 (kG 1) := by
  refine TT.bind TT.n8 fun a ha => ?_
  dsimp only
  exact TT.ret (P := kG 1) ⟨kd 1 (by decide), ⟨u0 8, u0 8⟩, ha, u0 8, u0 1, zH_G, zW_G, zR_G, u0 2, Nat.zero_le _, no_mem, zL_G⟩
theorem TT.b2 : TT b2 (kG 2) := by
  refine TT.bind TT.hold fun a ha => ?_
  dsimp only
  exact TT.ret (P := kG 2) ⟨kd 2 (by decide), ⟨u0 8, u0 8⟩, u0 8, u0 8, u0 1, ha, zW_G, zR_G, u0 2, Nat.zero_le _, no_mem, zL_G⟩
theorem TT.b3 : TT b3 (kG 3) := by
  refine TT.bind TT.id fun i hi => ?_
  dsimp only
  refine TT.bind TT.n1 fun e he => ?_
  dsimp only
  refine TT.bind TT.n8 fun p hp => ?_
  dsimp only
  refine TT.bind TT.n8 fun x hx => ?_
  dsimp only
  refine TT.bind TT.writes fun w hw => ?_
  dsimp only
  exact TT.ret (P := kG 3) ⟨kd 3 (by decide), hi, hp, hx, by rw [i64_of (by decide) he]; exact he, zH_G, hw, zR_G, u0 2, Nat.zero_le _, no_mem, zL_G⟩
theorem TT.b4 : TT b4 (kG 4) := by
  refine TT.bind TT.id fun i hi => ?_
  dsimp only
  refine TT.bind TT.n8 fun p hp => ?_
  dsimp only
  refine TT.bind TT.n2 fun s hs => ?_
  dsimp only
  refine TT.bind TT.parts fun l hl => ?_
  dsimp only
  refine TT.bind TT.reply fun x hx => ?_
  dsimp only
  exact TT.ret (P := kG 4) ⟨kd 4 (by decide), hi, hp, u0 8, u0 1, zH_G, zW_G, hx, hs, Int.ofNat_le.1 hl.1, hl.2, zL_G⟩
theorem TT.b5 : TT b5 (kG 5) := by
  refine TT.bind TT.id fun i hi => ?_
  dsimp only
  exact TT.ret (P := kG 5) ⟨kd 5 (by decide), hi, u0 8, u0 8, u0 1, zH_G, zW_G, zR_G, u0 2, Nat.zero_le _, no_mem, zL_G⟩
theorem TT.b6 : TT b6 (kG 6) := by
  refine TT.bind TT.rule fun r hr => ?_
  dsimp only
  refine TT.bind TT.flag fun o _ => ?_
  dsimp only
  exact TT.ret (P := kG 6) ⟨kd 6 (by decide), ⟨u0 8, u0 8⟩, u0 8, u0 8, u0 1, zH_G, zW_G, zR_G, u0 2, Nat.zero_le _, no_mem, hr⟩
theorem TT.b7 : TT b7 (kG 7) := by
  refine TT.bind TT.id fun i hi => ?_
  dsimp only
  refine TT.bind TT.n8 fun p hp => ?_
  dsimp only
  refine TT.bind TT.rule fun r hr => ?_
  dsimp only
  refine TT.bind TT.writes fun w hw => ?_
  dsimp only
  refine TT.bind TT.reply fun x hx => ?_
  dsimp only
  exact TT.ret (P := kG 7) ⟨kd 7 (by decide), hi, hp, u0 8, u0 1, zH_G, hw, hx, u0 2, Nat.zero_le _, no_mem, hr⟩
/-- What a reading comes to. -/
def decOK (p : List Int) (c : api_Command) (e : Int) : Prop := (e = 0 ∧ cmdG c ∧ cmdB c = p) ∨ (e = 5 ∧ c = zC)
theorem fin_any {p : List Int} {k : Int} {c : api_Command} {r : octet_Reader} (hc : kG k c) : ∃ d e, fin p k (c, r) = some (d, e) ∧ decOK p d e := by
  simp only [fin, octet_Reader_End, octet_Reader_Bad, Option.bind_some]
  cases r.bad with
  | true => exact ⟨zC, 5, rfl, .inr ⟨rfl, rfl⟩⟩
  | false =>
    simp only [Bool.not_false, cond_true, Option.bind_some]
    cases ((r.p.length : Int) == 0) with
    | false => exact ⟨zC, 5, rfl, .inr ⟨rfl, rfl⟩⟩
    | true =>
      have hl := cmdB_len hc
      have e := encode_G hc
      have e2 := slEq_eq _ p (Nat.le_trans hl (show 1000000 ≤ 1000000000 by decide))
      simp only [Bool.not_true, cond_false, e, Option.bind_some, e2]
      by_cases h : cmdB { c with Kind := k } = p
      · exact ⟨_, 0, by rw [decide_eq_true h]; rfl, .inl ⟨rfl, hc, h⟩⟩
      · exact ⟨zC, 5, by rw [decide_eq_false h]; rfl, .inr ⟨rfl, rfl⟩⟩
theorem dec_any {p : List Int} (hl : p.length ≤ 1000000000) (hu : U8s p) : ∃ d e, command_Decode p = some (d, e) ∧ decOK p d e := by
  obtain ⟨v, r, h1, ⟨h2, h3⟩, h4⟩ := TT.n1 { p := p, bad := false } ⟨hl, hu⟩
  rw [pw1] at h3
  have w : IntKind.u8.wrap v = v := by rw [wrap_u8] <;> omega
  have go : ∀ (f : octet_Reader → Option (api_Command × octet_Reader)) (k : Int), TT f (kG k) → ∃ d e, (f r).bind (fin p k) = some (d, e) ∧ decOK p d e := by
    intro f k hf
    obtain ⟨c, r', g1, g2, g3⟩ := hf r h4
    rw [g1, Option.bind_some]
    exact fin_any g2
  have h1' : octet_Reader_Num { p := p, bad := false } (1:Int) = some (v, r) := h1
  rw [decode_eq, h1', Option.bind_some]
  simp only [w]
  by_cases hk : 1 ≤ v ∧ v ≤ 7
  · rcases kinds hk with k | k | k | k | k | k | k <;> subst k
    · exact go _ _ TT.b1
    · exact go _ _ TT.b2
    · exact go _ _ TT.b3
    · exact go _ _ TT.b4
    · exact go _ _ TT.b5
    · exact go _ _ TT.b6
    · exact go _ _ TT.b7
  · have ff : ∀ n : Int, 1 ≤ n → n ≤ 7 → (v == n) = false := fun n h h' => by simp; omega
    simp only [ff 1 (by decide) (by decide), ff 2 (by decide) (by decide), ff 3 (by decide) (by decide), ff 4 (by decide) (by decide), ff 5 (by decide) (by decide), ff 6 (by decide) (by decide), ff 7 (by decide) (by decide), cond_false]
    exact ⟨zC, 5, rfl, .inr ⟨rfl, rfl⟩⟩
end Go.Proofs.Ytldfdainhdiffaa
