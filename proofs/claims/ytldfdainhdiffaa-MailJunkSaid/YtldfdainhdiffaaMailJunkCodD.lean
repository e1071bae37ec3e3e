/- A command's bytes, read back; and what any bytes are read as. -/
import Derived.Test.YtldfdainhdiffaaMailJunkCodRC
set_option linter.unusedVariables false
set_option linter.unusedSimpArgs false
set_option maxRecDepth 100000
namespace Go.Proofs.Ytldfdainhdiffaa
open Go Go.V
/-! ### What comes back has the same bytes -/
/-! ### Commands -/
def cmdG (c : api_Command) : Prop := (1 ≤ c.Kind ∧ c.Kind ≤ 7) ∧ idG c.ID ∧ isU 8 c.Epoch ∧ isU 8 c.Index ∧ isU 1 c.E ∧ holdG c.Hold ∧ writesG c.Writes ∧ replyG c.R ∧ isU 2 c.Shards ∧ c.Parts.length ≤ 8 ∧ (∀ x ∈ c.Parts, partG x) ∧ ruleG c.Rule
theorem cmdG.ok {c : api_Command} (g : cmdG c) : cmdOK c := by
  obtain ⟨_, h1, h2, h3, _, h4, h5, h6, h7, h8, h9, h10⟩ := g
  exact ⟨⟨h1.1.1, h1.2.1⟩, h2.1, h3.1, h4.ok, h5.ok, h6.ok, h7.1, ⟨by omega, fun x hx => (h9 x hx).2.ok⟩, h10.ok⟩
/-- A command as it comes back. -/
def cCmd (c : api_Command) : api_Command :=
  if c.Kind = 1 then { zC with Kind := 1, Epoch := c.Epoch }
  else if c.Kind = 2 then { zC with Kind := 2, Hold := cHold c.Hold }
  else if c.Kind = 3 then { zC with Kind := 3, ID := cId c.ID, E := c.E, Epoch := c.Epoch, Index := c.Index, Writes := cWrites c.Writes }
  else if c.Kind = 4 then { zC with Kind := 4, ID := cId c.ID, Epoch := c.Epoch, Shards := c.Shards, Parts := c.Parts.map cPart, R := cReply c.R }
  else if c.Kind = 5 then { zC with Kind := 5, ID := cId c.ID }
  else if c.Kind = 6 then { zC with Kind := 6, Rule := cRule c.Rule, On := c.On }
  else if c.Kind = 7 then { zC with Kind := 7, ID := cId c.ID, Epoch := c.Epoch, Rule := cRule c.Rule, Writes := cWrites c.Writes, R := cReply c.R }
  else zC
theorem no_mem {β : Type} {P : β → Prop} : ∀ x ∈ ([] : List β), P x := fun x h => by cases h
theorem u0 (m : Nat) : isU m 0 := ⟨Int.le_refl _, by have := Nat.pow_pos (n := m) (show 0 < 256 by decide); omega⟩
theorem zH_G : holdG zH := ⟨u0 8, u0 8, u0 8, no_mem, no_mem, no_mem, Nat.zero_le _, Nat.zero_le _, Nat.zero_le _, Nat.zero_le _, U8s.nil⟩
theorem zR_G : replyG zR := ⟨u0 1, u0 8, u0 8, no_mem, no_mem, Nat.zero_le _, Nat.zero_le _⟩
theorem zL_G : ruleG zL := ⟨u0 8, u0 1, u0 1, by show (0:Nat) < _; decide, by show (0:Nat) < _; decide, u0 8, u0 4⟩
theorem zW_G : writesG [] := ⟨Nat.zero_le _, no_mem⟩
theorem kinds {k : Int} (h : 1 ≤ k ∧ k ≤ 7) : k = 1 ∨ k = 2 ∨ k = 3 ∨ k = 4 ∨ k = 5 ∨ k = 6 ∨ k = 7 := by omega
theorem kd (k : Int) (h : 1 ≤ k ∧ k ≤ 7) : 1 ≤ k ∧ k ≤ 7 := h
/-! ### Lengths -/
theorem flat_len {β : Type} {l : List β} {e : β → List Int} {m : Nat} (h : ∀ x ∈ l, (e x).length ≤ m) : (l.map e).flatten.length ≤ l.length * m := by
  induction l with
  | nil => simp
  | cons x l ih =>
    have h1 := h x (by simp)
    have h2 := ih fun y hy => h y (by simp [hy])
    simp only [List.map_cons, List.flatten_cons, List.length_append, List.length_cons, Nat.succ_mul]
    omega
theorem rkB_len (x : Nat) : (rkB x).length = 8 := leB_length 8 _
theorem holdB_len {h : api_Hold} (g : holdG h) : (holdB h).length ≤ 2000 := by
  obtain ⟨_, _, _, _, _, _, l1, l2, l3, l4, _⟩ := g
  have a1 := flat_len (l := h.Gets) (e := rkB) (m := 8) fun x _ => by rw [rkB_len]; omega
  have a2 := flat_len (l := h.Scans) (e := scB) (m := 16) fun x _ => by simp only [scB, List.length_append, rkB_len]; omega
  have a3 := flat_len (l := h.Puts) (e := rkB) (m := 8) fun x _ => by rw [rkB_len]; omega
  simp only [holdB, byB, List.length_append, leB_length]
  omega
theorem writesB_len {l : List api_Write} (h : writesG l) : (writesB l).length ≤ 10000 := by
  have a1 := flat_len (l := l) (e := writeB) (m := 280) fun x hx => by
    have := (h.2 x hx).2.1
    simp only [writeB, flB, byB, List.length_append, rkB_len, leB_length]; omega
  have := h.1
  simp only [writesB, List.length_append, leB_length]
  omega
theorem replyB_len {x : api_Reply} (g : replyG x) : (replyB x).length ≤ 700000 := by
  obtain ⟨h1, h2, h3, h4, h5, h6, h7⟩ := g
  have a1 := flat_len (l := x.Gots) (e := gotB) (m := 280) fun y hy => by
    have := (h4 y hy).1
    simp only [gotB, flB, byB, List.length_append, leB_length]; omega
  have a2 := flat_len (l := x.Scans) (e := pairsB) (m := 20000) fun l hl => by
    have b := flat_len (l := l) (e := pairB) (m := 280) fun y hy => by
      have := ((h5 l hl).2 y hy).2.1
      simp only [pairB, byB, List.length_append, rkB_len, leB_length]; omega
    have := (h5 l hl).1
    simp only [pairsB, List.length_append, leB_length]; omega
  simp only [replyB, List.length_append, leB_length]
  omega
theorem cmdB_len {c : api_Command} (g : cmdG c) : (cmdB c).length ≤ 1000000 := by
  obtain ⟨hk, h1, h2, h3, he, h4, h5, h6, h7, h8, h9, h10⟩ := g
  have a1 := holdB_len h4
  have a2 := writesB_len h5
  have a3 := replyB_len h6
  have a4 := flat_len (l := c.Parts) (e := partB) (m := 10100) fun x hx => by
    have := writesB_len (h9 x hx).2
    simp only [partB, List.length_append, leB_length]; omega
  rcases kinds hk with k | k | k | k | k | k | k <;> simp only [cmdB, bodyB, k, if_true, if_false, Int.reduceEq, List.length_append, leB_length, idB, ruleB, rkB_len, flB] <;> omega
theorem encode_G {c : api_Command} (g : cmdG c) : command_Encode c = some (cmdB c) := encode_eq g.ok (by have := cmdB_len g; omega)
/-! ### Reading back -/
end Go.Proofs.Ytldfdainhdiffaa
