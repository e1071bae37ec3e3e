/- A mail is read. -/
import Derived.Test.YtldfdainhdiffaaMailJunkMailW
import Derived.Test.YtldfdainhdiffaaMailJunkCodDJ
set_option linter.unusedVariables false
set_option linter.unusedSimpArgs false
set_option maxRecDepth 100000
namespace Go.Proofs.Ytldfdainhdiffaa
open Go Go.V
def entG (x : api_Entry) : Prop := isU 8 x.Index ∧ isU 8 x.Term ∧ isU 1 x.Kind ∧ x.Data.length ≤ 1048576 ∧ U8s x.Data
noncomputable def rdEnt (r : octet_Reader) : Option (api_Entry × octet_Reader) := (octet_Reader_Num r (8:Int)).bind fun a => (octet_Reader_Num a.2 (8:Int)).bind fun b => (octet_Reader_Num b.2 (1:Int)).bind fun k => (octet_Reader_Bytes k.2 (1048576:Int)).bind fun d => some (({ Index := a.1, Term := b.1, Kind := IntKind.u8.wrap k.1, Data := d.1 } : api_Entry), d.2)
theorem u8_of {v : Int} (h : isU 1 v) : IntKind.u8.wrap v = v := by
  obtain ⟨a, b⟩ := h
  rw [pw1] at b
  rw [wrap_u8] <;> omega
theorem RD.ent {x : api_Entry} (h : entG x) : RD rdEnt (entB x) x := by
  obtain ⟨h1, h2, h3, h4, h5⟩ := h
  refine RD.bind (RD.n8 h1) ?_
  dsimp only
  refine RD.bind (RD.n8 h2) ?_
  dsimp only
  refine RD.bind (RD.u1 h3) ?_
  dsimp only
  exact RD.map (RD.bytes x.Data (by omega) (by decide) h5) fun r => by rw [u8_of h3]
theorem ent_ok (r : octet_Reader) (hr : rdOK r) : ∃ x r', rdEnt r = some (x, r') ∧ entG x ∧ rdOK r' ∧ r'.p.length + x.Data.length ≤ r.p.length := by
  obtain ⟨a, r1, a1, a2, a3, a4, a5⟩ := rnum_ok hr 8 (by decide)
  obtain ⟨b, r2, b1, b2, b3, b4, b5⟩ := rnum_ok a4 8 (by decide)
  obtain ⟨k, r3, k1, k2, k3, k4, k5⟩ := rnum_ok b4 1 (by decide)
  obtain ⟨d, r4, d1, d2, d3, d4⟩ := bytes_ok (a := 1048576) (by decide) (by decide) r3 k4
  have n8 : ((8 : Nat) : Int) = 8 := rfl
  have n1 : ((1 : Nat) : Int) = 1 := rfl
  rw [n8] at a1 b1
  rw [n1] at k1
  refine ⟨{ Index := a, Term := b, Kind := IntKind.u8.wrap k, Data := d }, r4, by simp only [rdEnt, a1, b1, k1, d1, Option.bind_some], ⟨⟨a2, a3⟩, ⟨b2, b3⟩, ?_, by show d.length ≤ 1048576; omega, d2.2⟩, d3, by show r4.p.length + d.length ≤ _; omega⟩
  show isU 1 (IntKind.u8.wrap k)
  rw [u8_of ⟨k2, k3⟩]; exact ⟨k2, k3⟩
theorem ents_step (t : Int × octet_Reader) (r : octet_Reader) (acc : List api_Entry) (i : Int) (hi : i < t.1) : mail_readMessage_l1 t (acc, r, i) = (rdEnt r).bind fun u => gd (room acc [u.1]) (some (Sum.inl (acc ++ [u.1], u.2, IntKind.i64.wrap (i + (1:Int))))) := by
  have e : decide (i < t.1) = true := by simpa using hi
  simp only [mail_readMessage_l1, e, cond_true, rdEnt, Option.bind_assoc, Option.bind_some]
theorem ents_end (t : Int × octet_Reader) (r : octet_Reader) (acc : List api_Entry) (i : Int) (hi : ¬ i < t.1) : mail_readMessage_l1 t (acc, r, i) = some (Sum.inr (r, acc)) := by simp [mail_readMessage_l1, hi, inrO]
noncomputable def rdEnts (r : octet_Reader) : Option (List api_Entry × octet_Reader) := (octet_Reader_Left r).bind fun l => (octet_Reader_Count r l).bind fun t => (loopO (mail_readMessage_l1 t) ([], t.2, (0:Int))).bind fun s => some (s.2, s.1)
theorem entB_len (x : api_Entry) : (entB x).length = 21 + x.Data.length := by simp only [entB, byB, List.length_append, leB_length]; omega
theorem ents_len (l : List api_Entry) : l.length ≤ ((l.map entB).flatten).length := by
  induction l with
  | nil => simp
  | cons x l ih => simp only [List.map_cons, List.flatten_cons, List.length_append, List.length_cons, entB_len]; omega
theorem RD.ents {l : List api_Entry} (h : ∀ x ∈ l, entG x) : RD rdEnts (leB 4 l.length ++ (l.map entB).flatten) l := by
  have hu : U8s (l.map entB).flatten := U8s.flat fun x hx => (RD.ent (h x hx)).1
  refine ⟨U8s.le.app hu, fun q hq hlen => ?_⟩
  simp only [List.length_append, leB_length] at hlen
  have hl := ents_len l
  have e1 : octet_Reader_Left { p := leB 4 l.length ++ (l.map entB).flatten ++ q, bad := false } = some ((leB 4 l.length ++ (l.map entB).flatten ++ q).length : Int) := rfl
  have e2 : octet_Reader_Count { p := leB 4 l.length ++ (l.map entB).flatten ++ q, bad := false } ((leB 4 l.length ++ (l.map entB).flatten ++ q).length : Int) = some ((l.length : Int), { p := (l.map entB).flatten ++ q, bad := false }) := by
    rw [List.append_assoc]
    exact count_leB l.length _ (by simp only [List.length_append, leB_length]; omega) (by simp only [List.length_append, leB_length]; omega) (hu.app hq)
  have e3 := RD.loop (body := mail_readMessage_l1 ((l.length : Int), { p := (l.map entB).flatten ++ q, bad := false })) (fun r acc i => (acc, r, i)) (fun r acc => (r, acc)) l entB _root_.id (by omega) (fun x hx => RD.ent (h x hx)) (fun r acc i hi => ents_step _ r acc i hi) (fun r acc => ents_end _ r acc _ (by simp)) q hq (by omega)
  rw [List.map_id] at e3
  unfold rdEnts
  rw [e1, Option.bind_some, e2, Option.bind_some]
  show (loopO _ ([], ({ p := (l.map entB).flatten ++ q, bad := false } : octet_Reader), (0:Int))).bind _ = _
  rw [e3]; rfl
def sumD : List api_Entry → Nat
  | [] => 0
  | x :: l => x.Data.length + sumD l
theorem sumD_app (a b : List api_Entry) : sumD (a ++ b) = sumD a + sumD b := by
  induction a with
  | nil => simp [sumD]
  | cons x a ih => simp only [List.cons_append, sumD, ih]; omega
theorem ents_bytes (l : List api_Entry) : ((l.map entB).flatten).length = 21 * l.length + sumD l := by
  induction l with
  | nil => simp [sumD]
  | cons x l ih => simp only [List.map_cons, List.flatten_cons, List.length_append, List.length_cons, entB_len, sumD, ih]; omega
theorem ents_ok (r : octet_Reader) (hr : rdOK r) : ∃ l r', rdEnts r = some (l, r') ∧ (∀ x ∈ l, entG x) ∧ rdOK r' ∧ l.length ≤ r.p.length ∧ sumD l ≤ r.p.length := by
  have hl : ∃ m : Nat, octet_Reader_Left r = some (m : Int) ∧ m ≤ r.p.length := by
    unfold octet_Reader_Left octet_Reader_Bad
    cases r.bad with
    | true => exact ⟨0, rfl, Nat.zero_le _⟩
    | false => exact ⟨r.p.length, rfl, Nat.le_refl _⟩
  obtain ⟨m, e1, hm⟩ := hl
  obtain ⟨n, r1, e2, h0, h1, hr1⟩ := count_ok hr (a := (m : Int)) (by omega) (by have := hr.1; omega)
  have hlen1 : r1.p.length ≤ r.p.length := by
    obtain ⟨v, r', a1, _, _, _, a5⟩ := rnum_ok hr 4 (by decide)
    have n4 : ((4 : Nat) : Int) = 4 := rfl
    rw [n4] at a1
    have e0 : decide ((m : Int) < (0:Int)) = false := by simp
    unfold octet_Reader_Count at e2
    simp only [a1, Option.bind_some, e0, cond_false, octet_Reader_spoil] at e2
    cases hv : decide (v > IntKind.u64.wrap (m : Int)) with
    | true => rw [hv, cond_true] at e2; cases e2; exact a5
    | false => rw [hv, cond_false] at e2; cases e2; exact a5
  have key : ∀ (k : Nat) (r2 : octet_Reader) (acc : List api_Entry) (i : Int), rdOK r2 → (acc.length : Int) = i → i ≤ n → (∀ x ∈ acc, entG x) → r2.p.length + sumD acc ≤ r.p.length → (n - i).toNat ≤ k →
      ∃ r' acc', loopO (mail_readMessage_l1 (n, r1)) (acc, r2, i) = some (r', acc') ∧ rdOK r' ∧ (∀ x ∈ acc', entG x) ∧ (acc'.length : Int) ≤ n ∧ sumD acc' ≤ r.p.length := by
    intro k
    induction k with
    | zero =>
      intro r2 acc i g1 g2 g3 g4 g5 g6
      have hni : ¬ i < n := by omega
      exact ⟨r2, acc, by rw [loopO_eq, ents_end _ r2 acc i hni]; rfl, g1, g4, by omega, by omega⟩
    | succ k ih =>
      intro r2 acc i g1 g2 g3 g4 g5 g6
      by_cases hlt : i < n
      · obtain ⟨x, r', k1, k2, k3, k4⟩ := ent_ok r2 g1
        have e1 : IntKind.i64.wrap (i + (1:Int)) = i + 1 := by have := hr.1; rw [wrap_i64] <;> omega
        obtain ⟨r3, acc3, q1, q2, q3, q4, q5⟩ := ih r' (acc ++ [x]) (i + 1) k3 (by simp only [List.length_append, List.length_cons, List.length_nil]; omega) (by omega) (fun y hy => by
          rcases List.mem_append.1 hy with hy | hy
          · exact g4 y hy
          · cases List.mem_singleton.1 hy; exact k2) (by rw [sumD_app]; simp only [sumD]; omega) (by omega)
        refine ⟨r3, acc3, ?_, q2, q3, q4, q5⟩
        rw [loopO_eq, ents_step _ r2 acc i hlt, k1, Option.bind_some, gd_true (room_le (by have := hr.1; simp only [List.length_cons, List.length_nil]; omega)), e1]
        exact q1
      · exact ⟨r2, acc, by rw [loopO_eq, ents_end _ r2 acc i hlt]; rfl, g1, g4, by omega, by omega⟩
  obtain ⟨r', acc', q1, q2, q3, q4, q5⟩ := key (n - 0).toNat r1 [] 0 hr1 rfl h0 (fun x hx => by cases hx) (by simp only [sumD]; omega) (Nat.le_refl _)
  refine ⟨acc', r', ?_, q3, q2, by omega, q5⟩
  unfold rdEnts
  rw [e1, Option.bind_some, e2, Option.bind_some, q1]; rfl
/-! ### Messages -/
def msgG (m : api_Message) : Prop := isU 1 m.Kind ∧ isU 1 m.From ∧ isU 1 m.To ∧ isU 8 m.Term ∧ isU 8 m.Index ∧ isU 8 m.LogTerm ∧ isU 8 m.Commit ∧ (∀ x ∈ m.Entries, entG x) ∧ isU 8 m.S.Index ∧ isU 8 m.S.Term ∧ isU 8 m.S.Voters ∧ m.S.Data.length ≤ 1048576 ∧ U8s m.S.Data ∧ m.Entries.length ≤ 10000000 ∧ sumD m.Entries ≤ 10000000
theorem msgG.ok {m : api_Message} (g : msgG m) : msgOK m := by
  obtain ⟨h1, h2, h3, h4, h5, h6, h7, h8, h9, h10, h11, h12, h13, h14, h15⟩ := g
  exact ⟨h4.1, h5.1, h6.1, h7.1, by omega, fun x hx => ⟨(h8 x hx).1.1, (h8 x hx).2.1.1, by have := (h8 x hx).2.2.2.1; omega⟩, h9.1, h10.1, h11.1, by omega⟩
theorem msgB_len {m : api_Message} (g : msgG m) : (msgB m).length ≤ 300000000 := by
  obtain ⟨h1, h2, h3, h4, h5, h6, h7, h8, h9, h10, h11, h12, h13, h14, h15⟩ := g
  have := ents_bytes m.Entries
  simp only [msgB, snapB, byB, flB, List.length_append, leB_length]
  omega
theorem message_eq (r : octet_Reader) : mail_readMessage r = (octet_Reader_Num r (1:Int)).bind fun k => (octet_Reader_Num k.2 (1:Int)).bind fun f => (octet_Reader_Num f.2 (1:Int)).bind fun t => (octet_Reader_Num t.2 (8:Int)).bind fun te => (octet_Reader_Num te.2 (8:Int)).bind fun i => (octet_Reader_Num i.2 (8:Int)).bind fun lt => (octet_Reader_Num lt.2 (8:Int)).bind fun c => (octet_Reader_Flag c.2).bind fun o => (rdEnts o.2).bind fun e => (octet_Reader_Num e.2 (8:Int)).bind fun si => (octet_Reader_Num si.2 (8:Int)).bind fun st => (octet_Reader_Num st.2 (8:Int)).bind fun sv => (octet_Reader_Bytes sv.2 (1048576:Int)).bind fun d =>
    some (({ Kind := IntKind.u8.wrap k.1, From := IntKind.i64.wrap f.1, To := IntKind.i64.wrap t.1, Term := te.1, Index := i.1, LogTerm := lt.1, Commit := c.1, OK := o.1, Entries := e.1, S := { Index := si.1, Term := st.1, Voters := sv.1, Data := d.1 } } : api_Message), d.2) := by
  unfold mail_readMessage
  refine bnd fun k => bnd fun f => bnd fun t => bnd fun te => bnd fun i => bnd fun lt => bnd fun c => bnd fun o => ?_
  simp only [rdEnts, Option.bind_assoc, Option.bind_some]
  refine bnd fun l => bnd fun n => bnd ?_
  rintro ⟨r1, e⟩
  rfl
theorem RD.message {m : api_Message} (g : msgG m) : RD mail_readMessage (msgB m) m := by
  obtain ⟨h1, h2, h3, h4, h5, h6, h7, h8, h9, h10, h11, h12, h13, h14, h15⟩ := g
  refine RD.of message_eq (RD.congr (b := leB 1 (un m.Kind) ++ (leB 1 (un m.From) ++ (leB 1 (un m.To) ++ (leB 8 m.Term.toNat ++ (leB 8 m.Index.toNat ++ (leB 8 m.LogTerm.toNat ++ (leB 8 m.Commit.toNat ++ (flB m.OK ++ ((leB 4 m.Entries.length ++ (m.Entries.map entB).flatten) ++ snapB m.S))))))))) ?_ (by simp only [msgB, List.append_assoc]) rfl)
  refine RD.bind (RD.u1 h1) ?_
  dsimp only
  refine RD.bind (RD.u1 h2) ?_
  dsimp only
  refine RD.bind (RD.u1 h3) ?_
  dsimp only
  refine RD.bind (RD.n8 h4) ?_
  dsimp only
  refine RD.bind (RD.n8 h5) ?_
  dsimp only
  refine RD.bind (RD.n8 h6) ?_
  dsimp only
  refine RD.bind (RD.n8 h7) ?_
  dsimp only
  refine RD.bind (RD.flag m.OK) ?_
  dsimp only
  refine RD.bind (RD.ents h8) ?_
  dsimp only
  unfold snapB
  refine RD.bind (RD.n8 h9) ?_
  dsimp only
  refine RD.bind (RD.n8 h10) ?_
  dsimp only
  refine RD.bind (RD.n8 h11) ?_
  dsimp only
  exact RD.map (RD.bytes m.S.Data (by omega) (by decide) h13) fun r => by rw [u8_of h1, i64_of (by decide) h2, i64_of (by decide) h3]
theorem message_ok (r : octet_Reader) (hr : rdOK r) (hl : r.p.length ≤ 10000000) : ∃ m r', mail_readMessage r = some (m, r') ∧ msgG m ∧ rdOK r' := by
  have n8 : ((8 : Nat) : Int) = 8 := rfl
  have n1 : ((1 : Nat) : Int) = 1 := rfl
  obtain ⟨k, r1, a1, b1, c1, o1, l1⟩ := rnum_ok hr 1 (by decide)
  obtain ⟨f, r2, a2, b2, c2, o2, l2⟩ := rnum_ok o1 1 (by decide)
  obtain ⟨t, r3, a3, b3, c3, o3, l3⟩ := rnum_ok o2 1 (by decide)
  obtain ⟨te, r4, a4, b4, c4, o4, l4⟩ := rnum_ok o3 8 (by decide)
  obtain ⟨i, r5, a5, b5, c5, o5, l5⟩ := rnum_ok o4 8 (by decide)
  obtain ⟨lt, r6, a6, b6, c6, o6, l6⟩ := rnum_ok o5 8 (by decide)
  obtain ⟨c, r7, a7, b7, c7, o7, l7⟩ := rnum_ok o6 8 (by decide)
  have hfl : ∃ b r8, octet_Reader_Flag r7 = some (b, r8) ∧ rdOK r8 ∧ r8.p.length ≤ r7.p.length := by
    obtain ⟨v, r', a, _, _, d, e⟩ := rnum_ok o7 1 (by decide)
    rw [n1] at a
    simp only [octet_Reader_Flag, a, Option.bind_some]
    cases decide (v > (1:Int)) with
    | true => exact ⟨_, _, rfl, spoil_ok d, e⟩
    | false => exact ⟨_, _, rfl, d, e⟩
  obtain ⟨o, r8, a8, o8, l8⟩ := hfl
  obtain ⟨e, r9, a9, b9, o9, l9, s9⟩ := ents_ok r8 o8
  obtain ⟨si, r10, a10, b10, c10, o10, l10⟩ := rnum_ok o9 8 (by decide)
  obtain ⟨st, r11, a11, b11, c11, o11, l11⟩ := rnum_ok o10 8 (by decide)
  obtain ⟨sv, r12, a12, b12, c12, o12, l12⟩ := rnum_ok o11 8 (by decide)
  obtain ⟨d, r13, a13, b13, o13, l13⟩ := bytes_ok (a := 1048576) (by decide) (by decide) r12 o12
  rw [n1] at a1 a2 a3
  rw [n8] at a4 a5 a6 a7 a10 a11 a12
  refine ⟨{ Kind := IntKind.u8.wrap k, From := IntKind.i64.wrap f, To := IntKind.i64.wrap t, Term := te, Index := i, LogTerm := lt, Commit := c, OK := o, Entries := e, S := { Index := si, Term := st, Voters := sv, Data := d } }, r13, by rw [message_eq]; simp only [a1, a2, a3, a4, a5, a6, a7, a8, a9, a10, a11, a12, a13, Option.bind_some], ⟨?_, ?_, ?_, ⟨b4, c4⟩, ⟨b5, c5⟩, ⟨b6, c6⟩, ⟨b7, c7⟩, b9, ⟨b10, c10⟩, ⟨b11, c11⟩, ⟨b12, c12⟩, by show d.length ≤ 1048576; omega, b13.2, by show e.length ≤ 10000000; omega, by show sumD e ≤ 10000000; omega⟩, o13⟩
  · show isU 1 (IntKind.u8.wrap k); rw [u8_of ⟨b1, c1⟩]; exact ⟨b1, c1⟩
  · show isU 1 (IntKind.i64.wrap f); rw [i64_of (m := 1) (by decide) ⟨b2, c2⟩]; exact ⟨b2, c2⟩
  · show isU 1 (IntKind.i64.wrap t); rw [i64_of (m := 1) (by decide) ⟨b3, c3⟩]; exact ⟨b3, c3⟩
/-! ### Mails -/
def zS : api_Snap := { Index := 0, Term := 0, Voters := 0, Data := [] }
def zMsg : api_Message := { Kind := 0, From := 0, To := 0, Term := 0, Index := 0, LogTerm := 0, Commit := 0, OK := false, Entries := [], S := zS }
def zM : api_Mail := { Kind := 0, M := zMsg, H := zH, ID := { Session := 0, Seq := 0 }, R := zR, C := zC }
noncomputable def mb1 (r : octet_Reader) : Option (api_Mail × octet_Reader) := (mail_readMessage r).bind fun a => some ({ zM with M := a.1 }, a.2)
noncomputable def mb2 (r : octet_Reader) : Option (api_Mail × octet_Reader) := (locks_Read r).bind fun a => some ({ zM with H := a.1 }, a.2)
noncomputable def mb3 (r : octet_Reader) : Option (api_Mail × octet_Reader) := (locks_Read r).bind fun a => (command_ReadReply a.2).bind fun b => some ({ zM with H := a.1, R := b.1 }, b.2)
noncomputable def mb5 (r : octet_Reader) : Option (api_Mail × octet_Reader) := (rdId r).bind fun i => some ({ zM with ID := i.1 }, i.2)
noncomputable def mfin (p : List Int) (k : Int) (s : api_Mail × octet_Reader) : Option (api_Mail × Int) :=
  (octet_Reader_End s.2).bind fun t => bif !t then some (zM, 5) else (mail_Encode { s.1 with Kind := k }).bind fun e => (slices_Equal_byte_byte e p).bind fun q => bif !q then some (zM, 5) else some ({ s.1 with Kind := k }, 0)
theorem mdecode_eq (p : List Int) : mail_Decode p = (octet_Reader_Num { p := p, bad := false } (1:Int)).bind fun t =>
    bif (IntKind.u8.wrap t.1) == (1:Int) then (mb1 t.2).bind (mfin p (IntKind.u8.wrap t.1)) else
    bif (IntKind.u8.wrap t.1) == (2:Int) then (mb2 t.2).bind (mfin p (IntKind.u8.wrap t.1)) else
    bif (IntKind.u8.wrap t.1) == (6:Int) then (mb2 t.2).bind (mfin p (IntKind.u8.wrap t.1)) else
    bif (IntKind.u8.wrap t.1) == (3:Int) then (mb3 t.2).bind (mfin p (IntKind.u8.wrap t.1)) else
    bif (IntKind.u8.wrap t.1) == (4:Int) then (octet_Reader_Bytes t.2 (1048576:Int)).bind fun d => (command_Decode d.1).bind fun c => bif c.2 != (0:Int) then some (zM, 5) else bif c.1.Kind != (3:Int) then some (zM, 5) else mfin p (IntKind.u8.wrap t.1) ({ zM with C := c.1 }, d.2) else
    bif (IntKind.u8.wrap t.1) == (5:Int) then (mb5 t.2).bind (mfin p (IntKind.u8.wrap t.1)) else some (zM, 5) := by
  unfold mail_Decode
  simp only [octet_Read, Option.bind_some]
  refine bnd fun t => ?_
  cases h1 : (IntKind.u8.wrap t.1) == (1:Int) with
  | true => simp only [cond_true, joinO, mb1, Option.bind_assoc, Option.bind_some]; rfl
  | false =>
  cases h2 : (IntKind.u8.wrap t.1) == (2:Int) with
  | true => simp only [cond_true, cond_false, joinO, mb2, mail_Decode_j1, Option.bind_assoc, Option.bind_some]; rfl
  | false =>
  cases h6 : (IntKind.u8.wrap t.1) == (6:Int) with
  | true => simp only [cond_true, cond_false, joinO, mb2, mail_Decode_j1, Option.bind_assoc, Option.bind_some]; rfl
  | false =>
  cases h3 : (IntKind.u8.wrap t.1) == (3:Int) with
  | true => simp only [cond_true, cond_false, joinO, mb3, h3, mail_Decode_j1, Option.bind_assoc, Option.bind_some]; rfl
  | false =>
  cases h4 : (IntKind.u8.wrap t.1) == (4:Int) with
  | true =>
    simp only [cond_true, cond_false, joinO, h3, h4, mail_Decode_j1, Option.bind_assoc, Option.bind_some]
    refine bnd fun d => bnd fun c => ?_
    cases c.2 != (0:Int) with
    | true => rfl
    | false =>
      cases c.1.Kind != (3:Int) with
      | true => rfl
      | false => rfl
  | false =>
  cases h5 : (IntKind.u8.wrap t.1) == (5:Int) with
  | true => simp only [cond_true, cond_false, joinO, mb5, rdId, h3, h4, h5, mail_Decode_j1, Option.bind_assoc, Option.bind_some]; rfl
  | false => simp only [cond_false, h3, h4, h5, joinO, mail_Decode_j1, Option.bind_some]; rfl
end Go.Proofs.Ytldfdainhdiffaa
