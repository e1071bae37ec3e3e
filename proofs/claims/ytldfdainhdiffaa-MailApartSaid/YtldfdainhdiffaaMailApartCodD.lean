/- A command's bytes, read back; and what any bytes are read as. -/
import Derived.Test.YtldfdainhdiffaaMailApartCodRC
set_option linter.unusedVariables false
set_option linter.unusedSimpArgs false
set_option maxRecDepth 100000
namespace Go.Proofs.Ytldfdainhdiffaa
open Go Go.V
/-! ### What comes back has the same bytes -/
theorem map_eq {β γ : Type} {l : List β} {f g : β → γ} (h : ∀ x ∈ l, f x = g x) : l.map f = l.map g := List.map_congr_left h
theorem rkB_map {l : List Nat} (h : ∀ x ∈ l, isF x) : (l.map cf).map rkB = l.map rkB := by rw [List.map_map]; exact map_eq fun x hx => rkB_cf (h x hx)
theorem holdB_c {h : api_Hold} (g : holdG h) : holdB (cHold h) = holdB h := by
  obtain ⟨h1, h2, h3, h4, h5, h6, _⟩ := g
  have hs : (h.Scans.map cSpan).map scB = h.Scans.map scB := by
    rw [List.map_map]
    exact map_eq fun x hx => by show rkB (cf x.1) ++ rkB (cf x.2) = _; rw [rkB_cf (h5 x hx).1, rkB_cf (h5 x hx).2]; rfl
  simp only [holdB, cHold, List.length_map, rkB_map h4, rkB_map h6, hs]
theorem holdG_c {h : api_Hold} (g : holdG h) : holdG (cHold h) := by
  obtain ⟨h1, h2, h3, h4, h5, h6, l1, l2, l3, l4, h7⟩ := g
  refine ⟨h1, h2, h3, ?_, ?_, ?_, by simpa [cHold] using l1, by simpa [cHold] using l2, by simpa [cHold] using l3, l4, h7⟩
  · intro x hx
    obtain ⟨y, hy, rfl⟩ := List.mem_map.1 hx
    exact cf_isF y (h4 y hy)
  · intro x hx
    obtain ⟨y, hy, rfl⟩ := List.mem_map.1 hx
    exact ⟨cf_isF _ (h5 y hy).1, cf_isF _ (h5 y hy).2⟩
  · intro x hx
    obtain ⟨y, hy, rfl⟩ := List.mem_map.1 hx
    exact cf_isF y (h6 y hy)
theorem writesB_c {l : List api_Write} (h : writesG l) : writesB (cWrites l) = writesB l := by
  have e : (l.map cWrite).map writeB = l.map writeB := by
    rw [List.map_map]
    exact map_eq fun x hx => by show rkB (cf x.At) ++ _ = _; rw [rkB_cf (h.2 x hx).1]; rfl
  simp only [writesB, cWrites, List.length_map, e]
theorem writesG_c {l : List api_Write} (h : writesG l) : writesG (cWrites l) := by
  refine ⟨by simpa [cWrites] using h.1, fun x hx => ?_⟩
  obtain ⟨y, hy, rfl⟩ := List.mem_map.1 hx
  exact ⟨cf_isF _ (h.2 y hy).1, (h.2 y hy).2⟩
theorem replyB_c {x : api_Reply} (g : replyG x) : replyB (cReply x) = replyB x := by
  obtain ⟨h1, h2, h3, h4, h5, h6, h7⟩ := g
  have e1 : (x.Gots.map cGot).map gotB = x.Gots.map gotB := by rw [List.map_map]; exact map_eq fun y hy => rfl
  have e2 : (x.Scans.map cPairs).map pairsB = x.Scans.map pairsB := by
    rw [List.map_map]
    refine map_eq fun l hl => ?_
    have e3 : (l.map cPair).map pairB = l.map pairB := by
      rw [List.map_map]
      exact map_eq fun y hy => by show rkB (cf y.At) ++ _ = _; rw [rkB_cf ((h5 l hl).2 y hy).1]; rfl
    show pairsB (cPairs l) = _
    simp only [pairsB, cPairs, List.length_map, e3]
  simp only [replyB, cReply, List.length_map, e1, e2]
theorem replyG_c {x : api_Reply} (g : replyG x) : replyG (cReply x) := by
  obtain ⟨h1, h2, h3, h4, h5, h6, h7⟩ := g
  refine ⟨h1, h2, h3, fun y hy => ?_, fun l hl => ?_, by simpa [cReply] using h6, by simpa [cReply] using h7⟩
  · obtain ⟨z, hz, rfl⟩ := List.mem_map.1 hy
    exact h4 z hz
  · obtain ⟨z, hz, rfl⟩ := List.mem_map.1 hl
    refine ⟨by simpa [cPairs] using (h5 z hz).1, fun p hp => ?_⟩
    obtain ⟨u, hu, rfl⟩ := List.mem_map.1 hp
    exact ⟨cf_isF _ ((h5 z hz).2 u hu).1, ((h5 z hz).2 u hu).2⟩
theorem ruleB_c {x : api_Rule} (g : ruleG x) : ruleB (cRule x) = ruleB x := by
  simp only [ruleB, cRule, rkB_cf g.2.2.2.1, rkB_cf g.2.2.2.2.1]
theorem ruleG_c {x : api_Rule} (g : ruleG x) : ruleG (cRule x) := ⟨g.1, g.2.1, g.2.2.1, cf_isF _ g.2.2.2.1, cf_isF _ g.2.2.2.2.1, g.2.2.2.2.2⟩
theorem partsB_c {l : List api_Part} (h : ∀ x ∈ l, partG x) : (l.map cPart).map partB = l.map partB := by
  rw [List.map_map]
  exact map_eq fun x hx => by show leB 1 (un x.Shard) ++ writesB (cWrites x.Writes) = _; rw [writesB_c (h x hx).2]; rfl
theorem partsG_c {l : List api_Part} (h : ∀ x ∈ l, partG x) : ∀ x ∈ l.map cPart, partG x := by
  intro x hx
  obtain ⟨y, hy, rfl⟩ := List.mem_map.1 hx
  exact ⟨(h y hy).1, writesG_c (h y hy).2⟩
/-! ### Commands -/
def cmdG (c : api_Command) : Prop := (1 ≤ c.Kind ∧ c.Kind ≤ 7) ∧ idG c.ID ∧ isU 8 c.Epoch ∧ isU 8 c.Index ∧ isU 1 c.E ∧ holdG c.Hold ∧ writesG c.Writes ∧ replyG c.R ∧ isU 2 c.Shards ∧ c.Parts.length ≤ 8 ∧ (∀ x ∈ c.Parts, partG x) ∧ ruleG c.Rule
theorem cmdG.ok {c : api_Command} (g : cmdG c) : cmdOK c := by
  obtain ⟨_, h1, h2, h3, _, h4, h5, h6, h7, h8, h9, h10⟩ := g
  exact ⟨⟨h1.1.1, h1.2.1⟩, h2.1, h3.1, h4.ok, h5.ok, h6.ok, h7.1, ⟨by omega, fun x hx => (h9 x hx).2.ok⟩, h10.ok⟩
/-- A command as it comes back. -/
def cCmd (c : api_Command) : api_Command :=
  if c.Kind = 1 then { zC with Kind := 1, Epoch := c.Epoch }
  else if c.Kind = 2 then { zC with Kind := 2, Hold := cHold c.Hold }
  else if c.Kind = 3 then { zC with Kind := 3, ID := cId c.ID, E := c.E, Epoch := c.Epoch, Index := c.Index, Writes := cWrites c.Writes }
  else if c.Kind = 4 then { zC with Kind := 4, ID := cId c.ID, Epoch := c.Epoch, Shards := c.Shards, Parts := c.Parts.map cPart, R := cReply c.R }
  else if c.Kind = 5 then { zC with Kind := 5, ID := cId c.ID }
  else if c.Kind = 6 then { zC with Kind := 6, Rule := cRule c.Rule, On := c.On }
  else if c.Kind = 7 then { zC with Kind := 7, ID := cId c.ID, Epoch := c.Epoch, Rule := cRule c.Rule, Writes := cWrites c.Writes, R := cReply c.R }
  else zC
theorem no_mem {β : Type} {P : β → Prop} : ∀ x ∈ ([] : List β), P x := fun x h => by cases h
theorem u0 (m : Nat) : isU m 0 := ⟨Int.le_refl _, by have := Nat.pow_pos (n := m) (show 0 < 256 by decide); omega⟩
theorem zH_G : holdG zH := ⟨u0 8, u0 8, u0 8, no_mem, no_mem, no_mem, Nat.zero_le _, Nat.zero_le _, Nat.zero_le _, Nat.zero_le _, U8s.nil⟩
theorem zR_G : replyG zR := ⟨u0 1, u0 8, u0 8, no_mem, no_mem, Nat.zero_le _, Nat.zero_le _⟩
theorem zL_G : ruleG zL := ⟨u0 8, u0 1, u0 1, by show (0:Nat) < _; decide, by show (0:Nat) < _; decide, u0 8, u0 4⟩
theorem zW_G : writesG [] := ⟨Nat.zero_le _, no_mem⟩
theorem zC_G (k : Int) (h : 1 ≤ k ∧ k ≤ 7) : cmdG { zC with Kind := k } := ⟨h, ⟨u0 8, u0 8⟩, u0 8, u0 8, u0 1, zH_G, zW_G, zR_G, u0 2, Nat.zero_le _, no_mem, zL_G⟩
theorem kinds {k : Int} (h : 1 ≤ k ∧ k ≤ 7) : k = 1 ∨ k = 2 ∨ k = 3 ∨ k = 4 ∨ k = 5 ∨ k = 6 ∨ k = 7 := by omega
theorem kd (k : Int) (h : 1 ≤ k ∧ k ≤ 7) : 1 ≤ k ∧ k ≤ 7 := h
theorem cCmd_G {c : api_Command} (g : cmdG c) : cmdG (cCmd c) := by
  have g0 := g
  obtain ⟨hk, h1, h2, h3, he, h4, h5, h6, h7, h8, h9, h10⟩ := g
  rcases kinds hk with k | k | k | k | k | k | k <;> simp only [cCmd, k] <;> simp only [if_true, if_false, Int.reduceEq] <;>
    first
    | exact ⟨kd 1 (by decide), ⟨u0 8, u0 8⟩, h2, u0 8, u0 1, zH_G, zW_G, zR_G, u0 2, Nat.zero_le _, no_mem, zL_G⟩
    | exact ⟨kd 2 (by decide), ⟨u0 8, u0 8⟩, u0 8, u0 8, u0 1, holdG_c h4, zW_G, zR_G, u0 2, Nat.zero_le _, no_mem, zL_G⟩
    | exact ⟨kd 3 (by decide), h1, h2, h3, he, zH_G, writesG_c h5, zR_G, u0 2, Nat.zero_le _, no_mem, zL_G⟩
    | exact ⟨kd 4 (by decide), h1, h2, u0 8, u0 1, zH_G, zW_G, replyG_c h6, h7, by simpa using h8, partsG_c h9, zL_G⟩
    | exact ⟨kd 5 (by decide), h1, u0 8, u0 8, u0 1, zH_G, zW_G, zR_G, u0 2, Nat.zero_le _, no_mem, zL_G⟩
    | exact ⟨kd 6 (by decide), ⟨u0 8, u0 8⟩, u0 8, u0 8, u0 1, zH_G, zW_G, zR_G, u0 2, Nat.zero_le _, no_mem, ruleG_c h10⟩
    | exact ⟨kd 7 (by decide), h1, h2, u0 8, u0 1, zH_G, writesG_c h5, replyG_c h6, u0 2, Nat.zero_le _, no_mem, ruleG_c h10⟩
theorem cmdB_c {c : api_Command} (g : cmdG c) : cmdB (cCmd c) = cmdB c := by
  obtain ⟨hk, h1, h2, h3, he, h4, h5, h6, h7, h8, h9, h10⟩ := g
  rcases kinds hk with k | k | k | k | k | k | k <;> simp only [cmdB, bodyB, cCmd, k, if_true, if_false, Int.reduceEq, holdB_c h4, writesB_c h5, replyB_c h6, ruleB_c h10, partsB_c h9, List.length_map] <;> rfl
/-! ### Lengths -/
theorem flat_len {β : Type} {l : List β} {e : β → List Int} {m : Nat} (h : ∀ x ∈ l, (e x).length ≤ m) : (l.map e).flatten.length ≤ l.length * m := by
  induction l with
  | nil => simp
  | cons x l ih =>
    have h1 := h x (by simp)
    have h2 := ih fun y hy => h y (by simp [hy])
    simp only [List.map_cons, List.flatten_cons, List.length_append, List.length_cons, Nat.succ_mul]
    omega
theorem rkB_len (x : Nat) : (rkB x).length = 8 := leB_length 8 _
theorem holdB_len {h : api_Hold} (g : holdG h) : (holdB h).length ≤ 2000 := by
  obtain ⟨_, _, _, _, _, _, l1, l2, l3, l4, _⟩ := g
  have a1 := flat_len (l := h.Gets) (e := rkB) (m := 8) fun x _ => by rw [rkB_len]; omega
  have a2 := flat_len (l := h.Scans) (e := scB) (m := 16) fun x _ => by simp only [scB, List.length_append, rkB_len]; omega
  have a3 := flat_len (l := h.Puts) (e := rkB) (m := 8) fun x _ => by rw [rkB_len]; omega
  simp only [holdB, byB, List.length_append, leB_length]
  omega
theorem writesB_len {l : List api_Write} (h : writesG l) : (writesB l).length ≤ 10000 := by
  have a1 := flat_len (l := l) (e := writeB) (m := 280) fun x hx => by
    have := (h.2 x hx).2.1
    simp only [writeB, flB, byB, List.length_append, rkB_len, leB_length]; omega
  have := h.1
  simp only [writesB, List.length_append, leB_length]
  omega
theorem replyB_len {x : api_Reply} (g : replyG x) : (replyB x).length ≤ 700000 := by
  obtain ⟨h1, h2, h3, h4, h5, h6, h7⟩ := g
  have a1 := flat_len (l := x.Gots) (e := gotB) (m := 280) fun y hy => by
    have := (h4 y hy).1
    simp only [gotB, flB, byB, List.length_append, leB_length]; omega
  have a2 := flat_len (l := x.Scans) (e := pairsB) (m := 20000) fun l hl => by
    have b := flat_len (l := l) (e := pairB) (m := 280) fun y hy => by
      have := ((h5 l hl).2 y hy).2.1
      simp only [pairB, byB, List.length_append, rkB_len, leB_length]; omega
    have := (h5 l hl).1
    simp only [pairsB, List.length_append, leB_length]; omega
  simp only [replyB, List.length_append, leB_length]
  omega
theorem cmdB_len {c : api_Command} (g : cmdG c) : (cmdB c).length ≤ 1000000 := by
  obtain ⟨hk, h1, h2, h3, he, h4, h5, h6, h7, h8, h9, h10⟩ := g
  have a1 := holdB_len h4
  have a2 := writesB_len h5
  have a3 := replyB_len h6
  have a4 := flat_len (l := c.Parts) (e := partB) (m := 10100) fun x hx => by
    have := writesB_len (h9 x hx).2
    simp only [partB, List.length_append, leB_length]; omega
  rcases kinds hk with k | k | k | k | k | k | k <;> simp only [cmdB, bodyB, k, if_true, if_false, Int.reduceEq, List.length_append, leB_length, idB, ruleB, rkB_len, flB] <;> omega
theorem encode_G {c : api_Command} (g : cmdG c) : command_Encode c = some (cmdB c) := encode_eq g.ok (by have := cmdB_len g; omega)
/-! ### Reading back -/
theorem fin_ok {p : List Int} {k : Int} {c : api_Command} (hc : cmdG { c with Kind := k }) (hp : cmdB { c with Kind := k } = p) : fin p k (c, { p := [], bad := false }) = some ({ c with Kind := k }, 0) := by
  have hl := cmdB_len hc
  simp only [fin, octet_Reader_End, octet_Reader_Bad, Option.bind_some, Bool.not_false, cond_true, List.length_nil]
  have e := encode_G hc
  rw [hp] at hl e
  have e2 : slices_Equal_byte_byte p p = some true := by rw [slEq_eq p p (by omega), decide_eq_true rfl]
  rw [e, Option.bind_some, e2]
  rfl
theorem dec_enc {c : api_Command} (g : cmdG c) : command_Decode (cmdB c) = some (cCmd c, 0) := by
  have hc := cCmd_G g
  have hB := cmdB_c g
  have hlen := cmdB_len g
  obtain ⟨hk, h1, h2, h3, he, h4, h5, h6, h7, h8, h9, h10⟩ := g
  have hn : RD (fun r => octet_Reader_Num r (1:Int)) (leB 1 (un c.Kind)) c.Kind := RD.u1 ⟨by omega, by rw [pw1]; omega⟩
  have wk : IntKind.u8.wrap c.Kind = c.Kind := by rw [wrap_u8] <;> omega
  have go : ∀ (f : octet_Reader → Option (api_Command × octet_Reader)) (d : api_Command), RD f (bodyB c) d → cCmd c = { d with Kind := c.Kind } → octet_Reader_Num { p := cmdB c, bad := false } (1:Int) = some (c.Kind, { p := bodyB c, bad := false }) ∧ (f { p := bodyB c, bad := false }).bind (fin (cmdB c) c.Kind) = some (cCmd c, 0) := by
    intro f d hf hd
    have hl : (cmdB c).length = 1 + (bodyB c).length := by simp only [cmdB, List.length_append, leB_length]
    have e1 := hn.2 (bodyB c) hf.1 (by rw [leB_length]; omega)
    have e2 := hf.2 [] U8s.nil (by rw [List.length_nil]; omega)
    rw [List.append_nil] at e2
    refine ⟨e1, ?_⟩
    rw [e2, Option.bind_some, fin_ok (by rw [← hd]; exact hc) (by rw [← hd]; exact hB), hd]
  rcases kinds hk with k | k | k | k | k | k | k
  · have := go b1 { zC with Epoch := c.Epoch } (by
      have e : bodyB c = leB 8 c.Epoch.toNat := by simp only [bodyB, k, if_true]
      rw [e]; exact RD.map (RD.n8 h2) fun r => rfl) (by simp only [cCmd, k, if_true])
    rw [decode_eq, this.1, Option.bind_some, wk, k]
    rw [k] at this
    exact this.2
  · have := go b2 { zC with Hold := cHold c.Hold } (by
      have e : bodyB c = holdB c.Hold := by simp only [bodyB, k, if_true, if_false, Int.reduceEq]
      rw [e]; exact RD.map (RD.hold h4) fun r => rfl) (by simp only [cCmd, k, if_true, if_false, Int.reduceEq])
    rw [decode_eq, this.1, Option.bind_some, wk, k]
    rw [k] at this
    exact this.2
  · have := go b3 { zC with ID := cId c.ID, E := c.E, Epoch := c.Epoch, Index := c.Index, Writes := cWrites c.Writes } (by
      have e : bodyB c = idB c.ID ++ (leB 1 (un c.E) ++ (leB 8 c.Epoch.toNat ++ (leB 8 c.Index.toNat ++ writesB c.Writes))) := by simp only [bodyB, k, if_true, if_false, Int.reduceEq]
      rw [e]
      refine RD.bind (RD.id h1) ?_
      dsimp only
      refine RD.bind (RD.u1 he) ?_
      dsimp only
      refine RD.bind (RD.n8 h2) ?_
      dsimp only
      refine RD.bind (RD.n8 h3) ?_
      dsimp only
      exact RD.map (RD.writes h5) fun r => by rw [i64_of (by decide) he]) (by simp only [cCmd, k, if_true, if_false, Int.reduceEq])
    rw [decode_eq, this.1, Option.bind_some, wk, k]
    rw [k] at this
    exact this.2
  · have := go b4 { zC with ID := cId c.ID, Epoch := c.Epoch, Shards := c.Shards, Parts := c.Parts.map cPart, R := cReply c.R } (by
      have e : bodyB c = idB c.ID ++ (leB 8 c.Epoch.toNat ++ (leB 2 c.Shards.toNat ++ ((leB 4 c.Parts.length ++ (c.Parts.map partB).flatten) ++ replyB c.R))) := by simp only [bodyB, k, if_true, if_false, Int.reduceEq, List.append_assoc]
      rw [e]
      refine RD.bind (RD.id h1) ?_
      dsimp only
      refine RD.bind (RD.n8 h2) ?_
      dsimp only
      refine RD.bind (RD.n2 h7) ?_
      dsimp only
      refine RD.bind (RD.parts h8 h9) ?_
      dsimp only
      exact RD.map (RD.reply h6) fun r => rfl) (by simp only [cCmd, k, if_true, if_false, Int.reduceEq])
    rw [decode_eq, this.1, Option.bind_some, wk, k]
    rw [k] at this
    exact this.2
  · have := go b5 { zC with ID := cId c.ID } (by
      have e : bodyB c = idB c.ID := by simp only [bodyB, k, if_true, if_false, Int.reduceEq]
      rw [e]; exact RD.map (RD.id h1) fun r => rfl) (by simp only [cCmd, k, if_true, if_false, Int.reduceEq])
    rw [decode_eq, this.1, Option.bind_some, wk, k]
    rw [k] at this
    exact this.2
  · have := go b6 { zC with Rule := cRule c.Rule, On := c.On } (by
      have e : bodyB c = ruleB c.Rule ++ flB c.On := by simp only [bodyB, k, if_true, if_false, Int.reduceEq]
      rw [e]
      refine RD.bind (RD.rule h10) ?_
      dsimp only
      exact RD.map (RD.flag c.On) fun r => rfl) (by simp only [cCmd, k, if_true, if_false, Int.reduceEq])
    rw [decode_eq, this.1, Option.bind_some, wk, k]
    rw [k] at this
    exact this.2
  · have := go b7 { zC with ID := cId c.ID, Epoch := c.Epoch, Rule := cRule c.Rule, Writes := cWrites c.Writes, R := cReply c.R } (by
      have e : bodyB c = idB c.ID ++ (leB 8 c.Epoch.toNat ++ (ruleB c.Rule ++ (writesB c.Writes ++ replyB c.R))) := by simp only [bodyB, k, if_true, if_false, Int.reduceEq]
      rw [e]
      refine RD.bind (RD.id h1) ?_
      dsimp only
      refine RD.bind (RD.n8 h2) ?_
      dsimp only
      refine RD.bind (RD.rule h10) ?_
      dsimp only
      refine RD.bind (RD.writes h5) ?_
      dsimp only
      exact RD.map (RD.reply h6) fun r => rfl) (by simp only [cCmd, k, if_true, if_false, Int.reduceEq])
    rw [decode_eq, this.1, Option.bind_some, wk, k]
    rw [k] at this
    exact this.2
end Go.Proofs.Ytldfdainhdiffaa
