/- A mail is read. -/
import Derived.Test.YtldfdainhdiffaaMailApartMailW
import Derived.Test.YtldfdainhdiffaaMailApartCodDJ
set_option linter.unusedVariables false
set_option linter.unusedSimpArgs false
set_option maxRecDepth 100000
namespace Go.Proofs.Ytldfdainhdiffaa
open Go Go.V
def entG (x : api_Entry) : Prop := isU 8 x.Index ∧ isU 8 x.Term ∧ isU 1 x.Kind ∧ x.Data.length ≤ 1048576 ∧ U8s x.Data
def cEnt (x : api_Entry) : api_Entry := { Index := x.Index, Term := x.Term, Kind := x.Kind, Data := x.Data }
noncomputable def rdEnt (r : octet_Reader) : Option (api_Entry × octet_Reader) := (octet_Reader_Num r (8:Int)).bind fun a => (octet_Reader_Num a.2 (8:Int)).bind fun b => (octet_Reader_Num b.2 (1:Int)).bind fun k => (octet_Reader_Bytes k.2 (1048576:Int)).bind fun d => some (({ Index := a.1, Term := b.1, Kind := IntKind.u8.wrap k.1, Data := d.1 } : api_Entry), d.2)
theorem u8_of {v : Int} (h : isU 1 v) : IntKind.u8.wrap v = v := by
  obtain ⟨a, b⟩ := h
  rw [pw1] at b
  rw [wrap_u8] <;> omega
theorem RD.ent {x : api_Entry} (h : entG x) : RD rdEnt (entB x) x := by
  obtain ⟨h1, h2, h3, h4, h5⟩ := h
  refine RD.bind (RD.n8 h1) ?_
  dsimp only
  refine RD.bind (RD.n8 h2) ?_
  dsimp only
  refine RD.bind (RD.u1 h3) ?_
  dsimp only
  exact RD.map (RD.bytes x.Data (by omega) (by decide) h5) fun r => by rw [u8_of h3]
theorem ents_step (t : Int × octet_Reader) (r : octet_Reader) (acc : List api_Entry) (i : Int) (hi : i < t.1) : mail_readMessage_l1 t (acc, r, i) = (rdEnt r).bind fun u => gd (room acc [u.1]) (some (Sum.inl (acc ++ [u.1], u.2, IntKind.i64.wrap (i + (1:Int))))) := by
  have e : decide (i < t.1) = true := by simpa using hi
  simp only [mail_readMessage_l1, e, cond_true, rdEnt, Option.bind_assoc, Option.bind_some]
theorem ents_end (t : Int × octet_Reader) (r : octet_Reader) (acc : List api_Entry) (i : Int) (hi : ¬ i < t.1) : mail_readMessage_l1 t (acc, r, i) = some (Sum.inr (r, acc)) := by simp [mail_readMessage_l1, hi, inrO]
noncomputable def rdEnts (r : octet_Reader) : Option (List api_Entry × octet_Reader) := (octet_Reader_Left r).bind fun l => (octet_Reader_Count r l).bind fun t => (loopO (mail_readMessage_l1 t) ([], t.2, (0:Int))).bind fun s => some (s.2, s.1)
theorem entB_len (x : api_Entry) : (entB x).length = 21 + x.Data.length := by simp only [entB, byB, List.length_append, leB_length]; omega
theorem ents_len (l : List api_Entry) : l.length ≤ ((l.map entB).flatten).length := by
  induction l with
  | nil => simp
  | cons x l ih => simp only [List.map_cons, List.flatten_cons, List.length_append, List.length_cons, entB_len]; omega
theorem RD.ents {l : List api_Entry} (h : ∀ x ∈ l, entG x) : RD rdEnts (leB 4 l.length ++ (l.map entB).flatten) l := by
  have hu : U8s (l.map entB).flatten := U8s.flat fun x hx => (RD.ent (h x hx)).1
  refine ⟨U8s.le.app hu, fun q hq hlen => ?_⟩
  simp only [List.length_append, leB_length] at hlen
  have hl := ents_len l
  have e1 : octet_Reader_Left { p := leB 4 l.length ++ (l.map entB).flatten ++ q, bad := false } = some ((leB 4 l.length ++ (l.map entB).flatten ++ q).length : Int) := rfl
  have e2 : octet_Reader_Count { p := leB 4 l.length ++ (l.map entB).flatten ++ q, bad := false } ((leB 4 l.length ++ (l.map entB).flatten ++ q).length : Int) = some ((l.length : Int), { p := (l.map entB).flatten ++ q, bad := false }) := by
    rw [List.append_assoc]
    exact count_leB l.length _ (by simp only [List.length_append, leB_length]; omega) (by simp only [List.length_append, leB_length]; omega) (hu.app hq)
  have e3 := RD.loop (body := mail_readMessage_l1 ((l.length : Int), { p := (l.map entB).flatten ++ q, bad := false })) (fun r acc i => (acc, r, i)) (fun r acc => (r, acc)) l entB _root_.id (by omega) (fun x hx => RD.ent (h x hx)) (fun r acc i hi => ents_step _ r acc i hi) (fun r acc => ents_end _ r acc _ (by simp)) q hq (by omega)
  rw [List.map_id] at e3
  unfold rdEnts
  rw [e1, Option.bind_some, e2, Option.bind_some]
  show (loopO _ ([], ({ p := (l.map entB).flatten ++ q, bad := false } : octet_Reader), (0:Int))).bind _ = _
  rw [e3]; rfl
def sumD : List api_Entry → Nat
  | [] => 0
  | x :: l => x.Data.length + sumD l
theorem ents_bytes (l : List api_Entry) : ((l.map entB).flatten).length = 21 * l.length + sumD l := by
  induction l with
  | nil => simp [sumD]
  | cons x l ih => simp only [List.map_cons, List.flatten_cons, List.length_append, List.length_cons, entB_len, sumD, ih]; omega
/-! ### Messages -/
def msgG (m : api_Message) : Prop := isU 1 m.Kind ∧ isU 1 m.From ∧ isU 1 m.To ∧ isU 8 m.Term ∧ isU 8 m.Index ∧ isU 8 m.LogTerm ∧ isU 8 m.Commit ∧ (∀ x ∈ m.Entries, entG x) ∧ isU 8 m.S.Index ∧ isU 8 m.S.Term ∧ isU 8 m.S.Voters ∧ m.S.Data.length ≤ 1048576 ∧ U8s m.S.Data ∧ m.Entries.length ≤ 10000000 ∧ sumD m.Entries ≤ 10000000
theorem msgG.ok {m : api_Message} (g : msgG m) : msgOK m := by
  obtain ⟨h1, h2, h3, h4, h5, h6, h7, h8, h9, h10, h11, h12, h13, h14, h15⟩ := g
  exact ⟨h4.1, h5.1, h6.1, h7.1, by omega, fun x hx => ⟨(h8 x hx).1.1, (h8 x hx).2.1.1, by have := (h8 x hx).2.2.2.1; omega⟩, h9.1, h10.1, h11.1, by omega⟩
theorem msgB_len {m : api_Message} (g : msgG m) : (msgB m).length ≤ 300000000 := by
  obtain ⟨h1, h2, h3, h4, h5, h6, h7, h8, h9, h10, h11, h12, h13, h14, h15⟩ := g
  have := ents_bytes m.Entries
  simp only [msgB, snapB, byB, flB, List.length_append, leB_length]
  omega
theorem message_eq (r : octet_Reader) : mail_readMessage r = (octet_Reader_Num r (1:Int)).bind fun k => (octet_Reader_Num k.2 (1:Int)).bind fun f => (octet_Reader_Num f.2 (1:Int)).bind fun t => (octet_Reader_Num t.2 (8:Int)).bind fun te => (octet_Reader_Num te.2 (8:Int)).bind fun i => (octet_Reader_Num i.2 (8:Int)).bind fun lt => (octet_Reader_Num lt.2 (8:Int)).bind fun c => (octet_Reader_Flag c.2).bind fun o => (rdEnts o.2).bind fun e => (octet_Reader_Num e.2 (8:Int)).bind fun si => (octet_Reader_Num si.2 (8:Int)).bind fun st => (octet_Reader_Num st.2 (8:Int)).bind fun sv => (octet_Reader_Bytes sv.2 (1048576:Int)).bind fun d =>
    some (({ Kind := IntKind.u8.wrap k.1, From := IntKind.i64.wrap f.1, To := IntKind.i64.wrap t.1, Term := te.1, Index := i.1, LogTerm := lt.1, Commit := c.1, OK := o.1, Entries := e.1, S := { Index := si.1, Term := st.1, Voters := sv.1, Data := d.1 } } : api_Message), d.2) := by
  unfold mail_readMessage
  refine bnd fun k => bnd fun f => bnd fun t => bnd fun te => bnd fun i => bnd fun lt => bnd fun c => bnd fun o => ?_
  simp only [rdEnts, Option.bind_assoc, Option.bind_some]
  refine bnd fun l => bnd fun n => bnd ?_
  rintro ⟨r1, e⟩
  rfl
theorem RD.message {m : api_Message} (g : msgG m) : RD mail_readMessage (msgB m) m := by
  obtain ⟨h1, h2, h3, h4, h5, h6, h7, h8, h9, h10, h11, h12, h13, h14, h15⟩ := g
  refine RD.of message_eq (RD.congr (b := leB 1 (un m.Kind) ++ (leB 1 (un m.From) ++ (leB 1 (un m.To) ++ (leB 8 m.Term.toNat ++ (leB 8 m.Index.toNat ++ (leB 8 m.LogTerm.toNat ++ (leB 8 m.Commit.toNat ++ (flB m.OK ++ ((leB 4 m.Entries.length ++ (m.Entries.map entB).flatten) ++ snapB m.S))))))))) ?_ (by simp only [msgB, List.append_assoc]) rfl)
  refine RD.bind (RD.u1 h1) ?_
  dsimp only
  refine RD.bind (RD.u1 h2) ?_
  dsimp only
  refine RD.bind (RD.u1 h3) ?_
  dsimp only
  refine RD.bind (RD.n8 h4) ?_
  dsimp only
  refine RD.bind (RD.n8 h5) ?_
  dsimp only
  refine RD.bind (RD.n8 h6) ?_
  dsimp only
  refine RD.bind (RD.n8 h7) ?_
  dsimp only
  refine RD.bind (RD.flag m.OK) ?_
  dsimp only
  refine RD.bind (RD.ents h8) ?_
  dsimp only
  unfold snapB
  refine RD.bind (RD.n8 h9) ?_
  dsimp only
  refine RD.bind (RD.n8 h10) ?_
  dsimp only
  refine RD.bind (RD.n8 h11) ?_
  dsimp only
  exact RD.map (RD.bytes m.S.Data (by omega) (by decide) h13) fun r => by rw [u8_of h1, i64_of (by decide) h2, i64_of (by decide) h3]
/-! ### Mails -/
def zS : api_Snap := { Index := 0, Term := 0, Voters := 0, Data := [] }
def zMsg : api_Message := { Kind := 0, From := 0, To := 0, Term := 0, Index := 0, LogTerm := 0, Commit := 0, OK := false, Entries := [], S := zS }
def zM : api_Mail := { Kind := 0, M := zMsg, H := zH, ID := { Session := 0, Seq := 0 }, R := zR, C := zC }
noncomputable def mb1 (r : octet_Reader) : Option (api_Mail × octet_Reader) := (mail_readMessage r).bind fun a => some ({ zM with M := a.1 }, a.2)
noncomputable def mb2 (r : octet_Reader) : Option (api_Mail × octet_Reader) := (locks_Read r).bind fun a => some ({ zM with H := a.1 }, a.2)
noncomputable def mb3 (r : octet_Reader) : Option (api_Mail × octet_Reader) := (locks_Read r).bind fun a => (command_ReadReply a.2).bind fun b => some ({ zM with H := a.1, R := b.1 }, b.2)
noncomputable def mb5 (r : octet_Reader) : Option (api_Mail × octet_Reader) := (rdId r).bind fun i => some ({ zM with ID := i.1 }, i.2)
noncomputable def mfin (p : List Int) (k : Int) (s : api_Mail × octet_Reader) : Option (api_Mail × Int) :=
  (octet_Reader_End s.2).bind fun t => bif !t then some (zM, 5) else (mail_Encode { s.1 with Kind := k }).bind fun e => (slices_Equal_byte_byte e p).bind fun q => bif !q then some (zM, 5) else some ({ s.1 with Kind := k }, 0)
theorem mdecode_eq (p : List Int) : mail_Decode p = (octet_Reader_Num { p := p, bad := false } (1:Int)).bind fun t =>
    bif (IntKind.u8.wrap t.1) == (1:Int) then (mb1 t.2).bind (mfin p (IntKind.u8.wrap t.1)) else
    bif (IntKind.u8.wrap t.1) == (2:Int) then (mb2 t.2).bind (mfin p (IntKind.u8.wrap t.1)) else
    bif (IntKind.u8.wrap t.1) == (6:Int) then (mb2 t.2).bind (mfin p (IntKind.u8.wrap t.1)) else
    bif (IntKind.u8.wrap t.1) == (3:Int) then (mb3 t.2).bind (mfin p (IntKind.u8.wrap t.1)) else
    bif (IntKind.u8.wrap t.1) == (4:Int) then (octet_Reader_Bytes t.2 (1048576:Int)).bind fun d => (command_Decode d.1).bind fun c => bif c.2 != (0:Int) then some (zM, 5) else bif c.1.Kind != (3:Int) then some (zM, 5) else mfin p (IntKind.u8.wrap t.1) ({ zM with C := c.1 }, d.2) else
    bif (IntKind.u8.wrap t.1) == (5:Int) then (mb5 t.2).bind (mfin p (IntKind.u8.wrap t.1)) else some (zM, 5) := by
  unfold mail_Decode
  simp only [octet_Read, Option.bind_some]
  refine bnd fun t => ?_
  cases h1 : (IntKind.u8.wrap t.1) == (1:Int) with
  | true => simp only [cond_true, joinO, mb1, Option.bind_assoc, Option.bind_some]; rfl
  | false =>
  cases h2 : (IntKind.u8.wrap t.1) == (2:Int) with
  | true => simp only [cond_true, cond_false, joinO, mb2, mail_Decode_j1, Option.bind_assoc, Option.bind_some]; rfl
  | false =>
  cases h6 : (IntKind.u8.wrap t.1) == (6:Int) with
  | true => simp only [cond_true, cond_false, joinO, mb2, mail_Decode_j1, Option.bind_assoc, Option.bind_some]; rfl
  | false =>
  cases h3 : (IntKind.u8.wrap t.1) == (3:Int) with
  | true => simp only [cond_true, cond_false, joinO, mb3, h3, mail_Decode_j1, Option.bind_assoc, Option.bind_some]; rfl
  | false =>
  cases h4 : (IntKind.u8.wrap t.1) == (4:Int) with
  | true =>
    simp only [cond_true, cond_false, joinO, h3, h4, mail_Decode_j1, Option.bind_assoc, Option.bind_some]
    refine bnd fun d => bnd fun c => ?_
    cases c.2 != (0:Int) with
    | true => rfl
    | false =>
      cases c.1.Kind != (3:Int) with
      | true => rfl
      | false => rfl
  | false =>
  cases h5 : (IntKind.u8.wrap t.1) == (5:Int) with
  | true => simp only [cond_true, cond_false, joinO, mb5, rdId, h3, h4, h5, mail_Decode_j1, Option.bind_assoc, Option.bind_some]; rfl
  | false => simp only [cond_false, h3, h4, h5, joinO, mail_Decode_j1, Option.bind_some]; rfl
end Go.Proofs.Ytldfdainhdiffaa
