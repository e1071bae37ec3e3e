/- A command is read. -/
import Derived.Test.YtldfdainhdiffaaMailApartCodRP
import Derived.Test.YtldfdainhdiffaaMailApartCodWC
import Derived.Test.YtldfdainhdiffaaMailApartSlEq
set_option linter.unusedVariables false
set_option linter.unusedSimpArgs false
set_option maxRecDepth 100000
namespace Go.Proofs.Ytldfdainhdiffaa
open Go Go.V
noncomputable def rdWrite (r : octet_Reader) : Option (api_Write × octet_Reader) := (rdF r).bind fun a => (octet_Reader_Flag a.2).bind fun d => (octet_Reader_Bytes d.2 (256:Int)).bind fun b => some (({ At := a.1, Del := d.1, Val := b.1 } : api_Write), b.2)
def writeG (x : api_Write) : Prop := isF x.At ∧ x.Val.length ≤ 256 ∧ U8s x.Val
def writesG (l : List api_Write) : Prop := l.length ≤ 32 ∧ ∀ x ∈ l, writeG x
def cWrite (x : api_Write) : api_Write := { At := cf x.At, Del := x.Del, Val := x.Val }
def cWrites (l : List api_Write) : List api_Write := l.map cWrite
theorem writesG.ok {l : List api_Write} (h : writesG l) : writesOK l := ⟨by have := h.1; omega, fun x hx => ⟨(h.2 x hx).1, by have := (h.2 x hx).2.1; omega⟩⟩
theorem RD.write {x : api_Write} (h : writeG x) : RD rdWrite (writeB x) (cWrite x) := by
  refine RD.bind (RD.f h.1) ?_
  dsimp only
  refine RD.bind (RD.flag x.Del) ?_
  dsimp only
  exact RD.map (RD.bytes x.Val (by have := h.2.1; omega) (by decide) h.2.2) fun r => rfl
theorem TT.write : TT rdWrite writeG := by
  refine TT.bind TT.f fun a ha => ?_
  dsimp only
  refine TT.bind TT.flag fun d _ => ?_
  dsimp only
  refine TT.bind (TT.bytes (by decide) (by decide)) fun b hb => ?_
  dsimp only
  exact TT.ret (P := writeG) ⟨ha, Int.ofNat_le.1 hb.1, hb.2⟩
theorem writes_step (t : Int × octet_Reader) (r : octet_Reader) (acc : List api_Write) (i : Int) (hi : i < t.1) : command_readWrites_l0 t (r, acc, i) = (rdWrite r).bind fun u => gd (room acc [u.1]) (some (Sum.inl (u.2, acc ++ [u.1], IntKind.i64.wrap (i + (1:Int))))) := by
  have e : decide (i < t.1) = true := by simpa using hi
  simp only [command_readWrites_l0, e, cond_true, rdWrite, rdF, Option.bind_assoc, Option.bind_some]
theorem writes_end (t : Int × octet_Reader) (r : octet_Reader) (acc : List api_Write) (i : Int) (hi : ¬ i < t.1) : command_readWrites_l0 t (r, acc, i) = some (Sum.inr (acc, r)) := by simp [command_readWrites_l0, hi, inrO]
theorem RD.writes {l : List api_Write} (h : writesG l) : RD command_readWrites (writesB l) (cWrites l) :=
  RD.listD (fun r acc i => (r, acc, i)) (fun r acc => (acc, r)) l writeB cWrite (by have := h.1; omega) (by decide) (fun x hx => RD.write (h.2 x hx)) writes_step writes_end fun r => rfl
theorem TT.writes : TT command_readWrites writesG :=
  TT.listD (fun r acc i => (r, acc, i)) (fun r acc => (acc, r)) (by decide) (by decide) TT.write writes_step writes_end fun r acc h1 h2 => ⟨acc, rfl, Int.ofNat_le.1 h1, h2⟩
def ruleG (x : api_Rule) : Prop := isU 8 x.ID ∧ isU 1 x.From ∧ isU 1 x.To ∧ isF x.Lo ∧ isF x.Hi ∧ isU 8 x.Authority ∧ isU 4 x.Quota
def cRule (x : api_Rule) : api_Rule := { ID := x.ID, From := x.From, To := x.To, Lo := cf x.Lo, Hi := cf x.Hi, Authority := x.Authority, Quota := x.Quota }
theorem ruleG.ok {x : api_Rule} (h : ruleG x) : ruleOK x := ⟨h.1.1, h.2.2.2.1, h.2.2.2.2.1, h.2.2.2.2.2.1.1⟩
theorem i64_of {m : Nat} {v : Int} (hm : m ≤ 4) (h : isU m v) : IntKind.i64.wrap v = v := by
  obtain ⟨h0, h1⟩ := h
  have h8 : (256:Nat) ^ m ≤ 256 ^ 4 := Nat.pow_le_pow_right (by decide) hm
  rw [pw4] at h8
  rw [wrap_i64] <;> omega
theorem rule_eq (r : octet_Reader) : command_readRule r = (octet_Reader_Num r (8:Int)).bind fun a => (octet_Reader_Num a.2 (1:Int)).bind fun f => (octet_Reader_Num f.2 (1:Int)).bind fun t => (rdF t.2).bind fun lo => (rdF lo.2).bind fun hi => (octet_Reader_Num hi.2 (8:Int)).bind fun au => (octet_Reader_Num au.2 (4:Int)).bind fun q => some (({ ID := a.1, From := IntKind.i64.wrap f.1, To := IntKind.i64.wrap t.1, Lo := lo.1, Hi := hi.1, Authority := au.1, Quota := IntKind.i64.wrap q.1 } : api_Rule), q.2) := by
  simp only [command_readRule, rdF, Option.bind_assoc, Option.bind_some]
theorem RD.rule {x : api_Rule} (h : ruleG x) : RD command_readRule (ruleB x) (cRule x) := by
  obtain ⟨h1, h2, h3, h4, h5, h6, h7⟩ := h
  refine RD.of rule_eq ?_
  refine RD.bind (RD.n8 h1) ?_
  dsimp only
  refine RD.bind (RD.u1 h2) ?_
  dsimp only
  refine RD.bind (RD.u1 h3) ?_
  dsimp only
  refine RD.bind (RD.f h4) ?_
  dsimp only
  refine RD.bind (RD.f h5) ?_
  dsimp only
  refine RD.bind (RD.n8 h6) ?_
  dsimp only
  exact RD.map (RD.u4 h7) fun r => by rw [i64_of (by decide) h2, i64_of (by decide) h3, i64_of (by decide) h7]; rfl
theorem TT.rule : TT command_readRule ruleG := by
  refine TT.of rule_eq ?_
  refine TT.bind TT.n8 fun a h1 => ?_
  dsimp only
  refine TT.bind TT.n1 fun f h2 => ?_
  dsimp only
  refine TT.bind TT.n1 fun t h3 => ?_
  dsimp only
  refine TT.bind TT.f fun lo h4 => ?_
  dsimp only
  refine TT.bind TT.f fun hi h5 => ?_
  dsimp only
  refine TT.bind TT.n8 fun au h6 => ?_
  dsimp only
  refine TT.bind TT.n4 fun q h7 => ?_
  dsimp only
  exact TT.ret (P := ruleG) ⟨h1, by rw [i64_of (by decide) h2]; exact h2, by rw [i64_of (by decide) h3]; exact h3, h4, h5, h6, by rw [i64_of (by decide) h7]; exact h7⟩
/-! ### Parts -/
noncomputable def rdPart (r : octet_Reader) : Option (api_Part × octet_Reader) := (octet_Reader_Num r (1:Int)).bind fun a => (command_readWrites a.2).bind fun b => some (({ Shard := IntKind.i64.wrap a.1, Writes := b.1 } : api_Part), b.2)
def partG (x : api_Part) : Prop := isU 1 x.Shard ∧ writesG x.Writes
def cPart (x : api_Part) : api_Part := { Shard := x.Shard, Writes := cWrites x.Writes }
theorem RD.part {x : api_Part} (h : partG x) : RD rdPart (partB x) (cPart x) := by
  refine RD.bind (RD.u1 h.1) ?_
  dsimp only
  exact RD.map (RD.writes h.2) fun r => by rw [i64_of (by decide) h.1]; rfl
theorem TT.part : TT rdPart partG := by
  refine TT.bind TT.n1 fun a ha => ?_
  dsimp only
  refine TT.bind TT.writes fun b hb => ?_
  dsimp only
  exact TT.ret (P := partG) ⟨by rw [i64_of (by decide) ha]; exact ha, hb⟩
theorem parts_step (t : Int × octet_Reader) (r : octet_Reader) (acc : List api_Part) (i : Int) (hi : i < t.1) : command_Decode_l2 t (acc, r, i) = (rdPart r).bind fun u => gd (room acc [u.1]) (some (Sum.inl (acc ++ [u.1], u.2, IntKind.i64.wrap (i + (1:Int))))) := by
  have e : decide (i < t.1) = true := by simpa using hi
  simp only [command_Decode_l2, e, cond_true, rdPart, Option.bind_assoc, Option.bind_some]
theorem parts_end (t : Int × octet_Reader) (r : octet_Reader) (acc : List api_Part) (i : Int) (hi : ¬ i < t.1) : command_Decode_l2 t (acc, r, i) = some (Sum.inr (r, acc)) := by simp [command_Decode_l2, hi, inrO]
noncomputable def rdParts (r : octet_Reader) : Option (List api_Part × octet_Reader) := (octet_Reader_Count r (8:Int)).bind fun t => (loopO (command_Decode_l2 t) ([], t.2, (0:Int))).bind fun s => some (s.2, s.1)
theorem RD.parts {l : List api_Part} (hl : l.length ≤ 8) (h : ∀ x ∈ l, partG x) : RD rdParts (leB 4 l.length ++ (l.map partB).flatten) (l.map cPart) :=
  RD.listG (fun r acc i => (acc, r, i)) (fun r acc => (r, acc)) (fun s => some (s.2, s.1)) l partB cPart (by omega) (by decide) (fun x hx => RD.part (h x hx)) parts_step parts_end fun r => rfl
theorem TT.parts : TT rdParts (fun l => (l.length : Int) ≤ 8 ∧ ∀ x ∈ l, partG x) :=
  TT.listG (fun r acc i => (acc, r, i)) (fun r acc => (r, acc)) (fun s => some (s.2, s.1)) (by decide) (by decide) TT.part parts_step parts_end fun r acc h1 h2 => ⟨acc, rfl, h1, h2⟩
noncomputable def rdId (r : octet_Reader) : Option (api_ID × octet_Reader) := (octet_Reader_Num r (8:Int)).bind fun a => (octet_Reader_Num a.2 (8:Int)).bind fun b => some (({ Session := a.1, Seq := b.1 } : api_ID), b.2)
def idG (x : api_ID) : Prop := isU 8 x.Session ∧ isU 8 x.Seq
def cId (x : api_ID) : api_ID := { Session := x.Session, Seq := x.Seq }
theorem RD.id {x : api_ID} (h : idG x) : RD rdId (idB x) (cId x) := by
  refine RD.bind (RD.n8 h.1) ?_
  dsimp only
  exact RD.map (RD.n8 h.2) fun r => rfl
theorem TT.id : TT rdId idG := by
  refine TT.bind TT.n8 fun a ha => ?_
  dsimp only
  refine TT.bind TT.n8 fun b hb => ?_
  dsimp only
  exact TT.ret (P := idG) ⟨ha, hb⟩
/-! ### The body -/
def zR : api_Reply := { E := 0, Epoch := 0, Index := 0, Gots := [], Scans := [] }
def zH : api_Hold := { ID := { Session := 0, Seq := 0 }, Epoch := 0, Gets := [], Scans := [], Puts := [], Data := [] }
def zL : api_Rule := { ID := 0, From := 0, To := 0, Lo := 0, Hi := 0, Authority := 0, Quota := 0 }
def zC : api_Command := { Kind := 0, ID := { Session := 0, Seq := 0 }, Epoch := 0, Index := 0, E := 0, Hold := zH, Writes := [], R := zR, Shards := 0, Parts := [], Rule := zL, On := false }
noncomputable def b1 (r : octet_Reader) : Option (api_Command × octet_Reader) := (octet_Reader_Num r (8:Int)).bind fun a => some ({ zC with Epoch := a.1 }, a.2)
noncomputable def b2 (r : octet_Reader) : Option (api_Command × octet_Reader) := (locks_Read r).bind fun a => some ({ zC with Hold := a.1 }, a.2)
noncomputable def b3 (r : octet_Reader) : Option (api_Command × octet_Reader) := (rdId r).bind fun i => (octet_Reader_Num i.2 (1:Int)).bind fun e => (octet_Reader_Num e.2 (8:Int)).bind fun p => (octet_Reader_Num p.2 (8:Int)).bind fun x => (command_readWrites x.2).bind fun w => some ({ zC with ID := i.1, E := IntKind.i64.wrap e.1, Epoch := p.1, Index := x.1, Writes := w.1 }, w.2)
noncomputable def b4 (r : octet_Reader) : Option (api_Command × octet_Reader) := (rdId r).bind fun i => (octet_Reader_Num i.2 (8:Int)).bind fun p => (octet_Reader_Num p.2 (2:Int)).bind fun s => (rdParts s.2).bind fun l => (command_ReadReply l.2).bind fun x => some ({ zC with ID := i.1, Epoch := p.1, Shards := s.1, Parts := l.1, R := x.1 }, x.2)
noncomputable def b5 (r : octet_Reader) : Option (api_Command × octet_Reader) := (rdId r).bind fun i => some ({ zC with ID := i.1 }, i.2)
noncomputable def b6 (r : octet_Reader) : Option (api_Command × octet_Reader) := (command_readRule r).bind fun a => (octet_Reader_Flag a.2).bind fun o => some ({ zC with Rule := a.1, On := o.1 }, o.2)
noncomputable def b7 (r : octet_Reader) : Option (api_Command × octet_Reader) := (rdId r).bind fun i => (octet_Reader_Num i.2 (8:Int)).bind fun p => (command_readRule p.2).bind fun a => (command_readWrites a.2).bind fun w => (command_ReadReply w.2).bind fun x => some ({ zC with ID := i.1, Epoch := p.1, Rule := a.1, Writes := w.1, R := x.1 }, x.2)
/-- The end of a reading. -/
noncomputable def fin (p : List Int) (k : Int) (s : api_Command × octet_Reader) : Option (api_Command × Int) :=
  (octet_Reader_End s.2).bind fun t => bif !t then some (zC, 5) else (command_Encode { s.1 with Kind := k }).bind fun e => (slices_Equal_byte_byte e p).bind fun q => bif !q then some (zC, 5) else some ({ s.1 with Kind := k }, 0)
theorem decode_eq (p : List Int) : command_Decode p = (octet_Reader_Num { p := p, bad := false } (1:Int)).bind fun t =>
    bif (IntKind.u8.wrap t.1) == (1:Int) then (b1 t.2).bind (fin p (IntKind.u8.wrap t.1)) else
    bif (IntKind.u8.wrap t.1) == (2:Int) then (b2 t.2).bind (fin p (IntKind.u8.wrap t.1)) else
    bif (IntKind.u8.wrap t.1) == (3:Int) then (b3 t.2).bind (fin p (IntKind.u8.wrap t.1)) else
    bif (IntKind.u8.wrap t.1) == (4:Int) then (b4 t.2).bind (fin p (IntKind.u8.wrap t.1)) else
    bif (IntKind.u8.wrap t.1) == (5:Int) then (b5 t.2).bind (fin p (IntKind.u8.wrap t.1)) else
    bif (IntKind.u8.wrap t.1) == (6:Int) then (b6 t.2).bind (fin p (IntKind.u8.wrap t.1)) else
    bif (IntKind.u8.wrap t.1) == (7:Int) then (b7 t.2).bind (fin p (IntKind.u8.wrap t.1)) else some (zC, 5) := by
  unfold command_Decode
  simp only [octet_Read, Option.bind_some]
  refine bnd fun t => ?_
  cases h1 : (IntKind.u8.wrap t.1) == (1:Int) with
  | true => simp only [cond_true, joinO, b1, Option.bind_assoc, Option.bind_some]; rfl
  | false =>
  cases h2 : (IntKind.u8.wrap t.1) == (2:Int) with
  | true => simp only [cond_true, cond_false, joinO, b2, Option.bind_assoc, Option.bind_some]; rfl
  | false =>
  cases h3 : (IntKind.u8.wrap t.1) == (3:Int) with
  | true => simp only [cond_true, cond_false, joinO, b3, rdId, Option.bind_assoc, Option.bind_some]; rfl
  | false =>
  cases h4 : (IntKind.u8.wrap t.1) == (4:Int) with
  | true =>
    simp only [cond_true, cond_false, joinO, b4, rdId, rdParts, Option.bind_assoc, Option.bind_some]
    refine bnd fun t1 => bnd fun t2 => bnd fun t3 => bnd fun t4 => bnd fun t5 => bnd ?_
    rintro ⟨r6, l6⟩
    simp only [command_Decode_j1, Option.bind_assoc, Option.bind_some]
    rfl
  | false =>
  cases h5 : (IntKind.u8.wrap t.1) == (5:Int) with
  | true => simp only [cond_true, cond_false, joinO, b5, rdId, Option.bind_assoc, Option.bind_some]; rfl
  | false =>
  cases h6 : (IntKind.u8.wrap t.1) == (6:Int) with
  | true => simp only [cond_true, cond_false, joinO, b6, Option.bind_assoc, Option.bind_some]; rfl
  | false =>
  cases h7 : (IntKind.u8.wrap t.1) == (7:Int) with
  | true => simp only [cond_true, cond_false, joinO, b7, rdId, Option.bind_assoc, Option.bind_some]; rfl
  | false => simp only [cond_false]; rfl
end Go.Proofs.Ytldfdainhdiffaa
