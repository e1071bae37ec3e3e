/- Mails that the tape draws; are two mails one? -/
import Derived.Test.YtldfdainhdiffaaMailApartMailD
import Derived.Test.YtldfdainhdiffaaMailApartCodT
set_option linter.unusedVariables false
set_option linter.unusedSimpArgs false
set_option maxRecDepth 100000
namespace Go.Proofs.Ytldfdainhdiffaa
open Go Go.V
/-- Mails that come back as they were. -/
def mailN (m : api_Mail) : Prop := mailG m ∧ cMail m = m ∧ cHold m.H = m.H ∧ cReply m.R = m.R ∧ (mailB m).length ≤ 5000000
theorem un_u8 {v : Int} (h0 : 0 ≤ v) (h : v < 100) : IntKind.u8.wrap (IntKind.i64.wrap ((1:Int) + v)) = 1 + v := by rw [wrap_i64 (by omega) (by omega), wrap_u8] <;> omega
theorem ent1_teq (t : Int × ref12_Tape) (r : ref12_Tape) (acc : List api_Entry) (i : Int) (hi : i < t.1) : law17_make1_l1 t (acc, r, i) = ((fun (i : Int) (r : ref12_Tape) => (ref12_Tape_Next r (9:Int)).bind fun a => (ref12_Tape_Next a.2 (2:Int)).bind fun k => (ref12_Tape_Val k.2).bind fun d => some (({ Index := IntKind.u64.wrap i, Term := IntKind.u64.wrap a.1, Kind := IntKind.u8.wrap k.1, Data := d.1 } : api_Entry), d.2)) i r).bind fun u => gd (room acc [u.1]) (some (Sum.inl (acc ++ [u.1], u.2, IntKind.i64.wrap (i + (1:Int))))) := by
  have e : decide (i < t.1) = true := by simpa using hi
  simp only [law17_make1_l1, e, cond_true, Option.bind_assoc, Option.bind_some]
noncomputable def mkMsg (r : ref12_Tape) : Option (api_Message × ref12_Tape) := (ref12_Tape_Next r (7:Int)).bind fun k => (ref12_Tape_Next k.2 (5:Int)).bind fun f => (ref12_Tape_Next f.2 (5:Int)).bind fun t => (ref12_Tape_Next t.2 (250:Int)).bind fun te => (ref12_Tape_Next te.2 (250:Int)).bind fun i => (ref12_Tape_Next i.2 (9:Int)).bind fun lt => (ref12_Tape_Next lt.2 (99:Int)).bind fun c => (ref12_Tape_Next c.2 (2:Int)).bind fun o => (ref12_Tape_Next o.2 (4:Int)).bind fun n => (loopO (law17_make1_l1 (n.1, rt)) ([], n.2, (0:Int))).bind fun s => (ref12_Tape_Next s.1 (9:Int)).bind fun si => (ref12_Tape_Next si.2 (9:Int)).bind fun st => (ref12_Tape_Next st.2 (9:Int)).bind fun sv => (ref12_Tape_Val sv.2).bind fun d =>
  some (({ Kind := IntKind.u8.wrap (IntKind.i64.wrap ((1:Int) + k.1)), From := f.1, To := t.1, Term := IntKind.u64.wrap te.1, Index := IntKind.u64.wrap i.1, LogTerm := IntKind.u64.wrap lt.1, Commit := IntKind.u64.wrap c.1, OK := o.1 == (0:Int), Entries := s.2, S := { Index := IntKind.u64.wrap si.1, Term := IntKind.u64.wrap st.1, Voters := IntKind.u64.wrap sv.1, Data := d.1 } } : api_Message), d.2)
def msgN (m : api_Message) : Prop := msgG m ∧ (msgB m).length ≤ 1000
theorem TP.msg : TP mkMsg msgN := by
  unfold mkMsg
  refine TP.bind (TP.next 7) fun k hk => ?_
  dsimp only
  refine TP.bind (TP.next 5) fun f hf => ?_
  dsimp only
  refine TP.bind (TP.next 5) fun t ht => ?_
  dsimp only
  refine TP.bind (TP.next 250) fun te hte => ?_
  dsimp only
  refine TP.bind (TP.next 250) fun i hi => ?_
  dsimp only
  refine TP.bind (TP.next 9) fun lt hlt => ?_
  dsimp only
  refine TP.bind (TP.next 99) fun c hc => ?_
  dsimp only
  refine TP.bind (TP.next 2) fun o ho => ?_
  dsimp only
  refine TP.bind (TP.next 4) fun n hn => ?_
  dsimp only
  refine TP.loopB (P := fun x => entG x ∧ x.Data.length ≤ 3) (body := law17_make1_l1 (n, rt)) (F := fun (i : Int) (r : ref12_Tape) => (ref12_Tape_Next r (9:Int)).bind fun a => (ref12_Tape_Next a.2 (2:Int)).bind fun k => (ref12_Tape_Val k.2).bind fun d => some (({ Index := IntKind.u64.wrap i, Term := IntKind.u64.wrap a.1, Kind := IntKind.u8.wrap k.1, Data := d.1 } : api_Entry), d.2)) (fun t acc i => (acc, t, i)) (fun t acc => (t, acc)) n (by omega) hn.1 (fun j j0 j1 => ?_) (fun t acc i hi => ent1_teq (n, rt) t acc i hi) (fun t acc i hi => ?_) (fun ents e1 e2 => ?_)
  · refine TP.bind (TP.next 9) fun a ha => ?_
    dsimp only
    refine TP.bind (TP.next 2) fun k hk => ?_
    dsimp only
    refine TP.bind TP.val fun d hd => ?_
    dsimp only
    have hk1 : isU 1 k := ⟨hk.1, by rw [pw1]; omega⟩
    exact TP.ret (P := fun x : api_Entry => entG x ∧ x.Data.length ≤ 3) ⟨⟨small_u j0 (by omega), small_u ha.1 (by omega), by rw [u8_of hk1]; exact hk1, by show d.length ≤ 1048576; omega, hd.2⟩, hd.1⟩
  · have e : decide (i < n) = false := by simpa using hi
    simp only [law17_make1_l1, e, cond_false, inrO, Option.map_some]
  dsimp only
  refine TP.bind (TP.next 9) fun si hsi => ?_
  dsimp only
  refine TP.bind (TP.next 9) fun st hst => ?_
  dsimp only
  refine TP.bind (TP.next 9) fun sv hsv => ?_
  dsimp only
  refine TP.bind TP.val fun d hd => ?_
  dsimp only
  have hsum : sumD ents ≤ 3 * ents.length := by
    clear e2
    induction ents with
    | nil => simp [sumD]
    | cons x l ih =>
      have h1 := (e1 x (by simp)).2
      have h2 := ih fun y hy => e1 y (by simp [hy])
      simp only [sumD, List.length_cons]; omega
  have hf1 : isU 1 f := ⟨hf.1, by rw [pw1]; omega⟩
  have ht1 : isU 1 t := ⟨ht.1, by rw [pw1]; omega⟩
  have hk1 : isU 1 (IntKind.u8.wrap (IntKind.i64.wrap ((1:Int) + k))) := by rw [un_u8 hk.1 (by omega)]; exact ⟨by omega, by rw [pw1]; omega⟩
  refine TP.ret (P := msgN) ⟨⟨hk1, hf1, ht1, small_u hte.1 (by omega), small_u hi.1 (by omega), small_u hlt.1 (by omega), small_u hc.1 (by omega), fun x hx => (e1 x hx).1, small_u hsi.1 (by omega), small_u hst.1 (by omega), small_u hsv.1 (by omega), ?_, hd.2, ?_, ?_⟩, ?_⟩
  · show d.length ≤ 1048576; omega
  · show ents.length ≤ 10000000; omega
  · show sumD ents ≤ 10000000; omega
  · have hb := ents_bytes ents
    simp only [msgB, snapB, byB, flB, List.length_append, leB_length]
    omega
theorem make1_teq (t : ref12_Tape) : law17_make1 t = (ref12_Tape_Next t (6:Int)).bind fun a =>
    bif (IntKind.u8.wrap (IntKind.i64.wrap ((1:Int) + a.1))) == (1:Int) then (mkMsg a.2).bind fun m => some ({ zM with Kind := IntKind.u8.wrap (IntKind.i64.wrap ((1:Int) + a.1)), M := m.1 }, m.2) else
    bif (IntKind.u8.wrap (IntKind.i64.wrap ((1:Int) + a.1))) == (2:Int) then (ref12_Tape_Hold a.2).bind fun h => some ({ zM with Kind := IntKind.u8.wrap (IntKind.i64.wrap ((1:Int) + a.1)), H := h.1 }, h.2) else
    bif (IntKind.u8.wrap (IntKind.i64.wrap ((1:Int) + a.1))) == (6:Int) then (ref12_Tape_Hold a.2).bind fun h => some ({ zM with Kind := IntKind.u8.wrap (IntKind.i64.wrap ((1:Int) + a.1)), H := h.1 }, h.2) else
    bif (IntKind.u8.wrap (IntKind.i64.wrap ((1:Int) + a.1))) == (3:Int) then (ref12_Tape_Hold a.2).bind fun h => (ref13_OfReply h.2).bind fun r => some ({ zM with Kind := IntKind.u8.wrap (IntKind.i64.wrap ((1:Int) + a.1)), H := h.1, R := r.1 }, r.2) else
    bif (IntKind.u8.wrap (IntKind.i64.wrap ((1:Int) + a.1))) == (4:Int) then (ref12_Tape_Of a.2).bind fun i => (ref12_Tape_Next i.2 (9:Int)).bind fun e => (ref12_Tape_Next e.2 (9:Int)).bind fun p => (ref12_Tape_Next p.2 (9:Int)).bind fun x => (ref13_OfWrites x.2).bind fun w => some ({ zM with Kind := IntKind.u8.wrap (IntKind.i64.wrap ((1:Int) + a.1)), C := { zC with Kind := 3, ID := i.1, E := e.1, Epoch := IntKind.u64.wrap p.1, Index := IntKind.u64.wrap x.1, Writes := w.1 } }, w.2) else
    bif (IntKind.u8.wrap (IntKind.i64.wrap ((1:Int) + a.1))) == (5:Int) then (ref12_Tape_Of a.2).bind fun i => some ({ zM with Kind := IntKind.u8.wrap (IntKind.i64.wrap ((1:Int) + a.1)), ID := i.1 }, i.2) else
    some ({ zM with Kind := IntKind.u8.wrap (IntKind.i64.wrap ((1:Int) + a.1)) }, a.2) := by
  unfold law17_make1
  refine bnd fun a => ?_
  cases h1 : (IntKind.u8.wrap (IntKind.i64.wrap ((1:Int) + a.1))) == (1:Int) with
  | true =>
    simp only [cond_true, mkMsg, Option.bind_assoc]
    refine bnd fun k => bnd fun f => bnd fun t => bnd fun te => bnd fun i => bnd fun lt => bnd fun c => bnd fun o => bnd fun n => bnd ?_
    rintro ⟨t1, l⟩
    rfl
  | false =>
  cases h2 : (IntKind.u8.wrap (IntKind.i64.wrap ((1:Int) + a.1))) == (2:Int) with
  | true => rfl
  | false =>
  cases h6 : (IntKind.u8.wrap (IntKind.i64.wrap ((1:Int) + a.1))) == (6:Int) with
  | true => rfl
  | false =>
  simp only [cond_false, Option.bind_some, law17_make1_j2]
  cases h3 : (IntKind.u8.wrap (IntKind.i64.wrap ((1:Int) + a.1))) == (3:Int) with
  | true => rfl
  | false =>
  cases h4 : (IntKind.u8.wrap (IntKind.i64.wrap ((1:Int) + a.1))) == (4:Int) with
  | true => rfl
  | false =>
  cases h5 : (IntKind.u8.wrap (IntKind.i64.wrap ((1:Int) + a.1))) == (5:Int) with
  | true => rfl
  | false => rfl
theorem TP.mail : TP (fun t => law17_make1 t) mailN := by
  refine TP.of make1_teq ?_
  refine TP.bind (TP.next 6) fun a ha => ?_
  dsimp only
  rw [un_u8 ha.1 (by omega)]
  have : a = 0 ∨ a = 1 ∨ a = 2 ∨ a = 3 ∨ a = 4 ∨ a = 5 := by omega
  rcases this with rfl | rfl | rfl | rfl | rfl | rfl
  · refine TP.bind TP.msg fun m hm => ?_
    dsimp only
    refine TP.ret (P := mailN) ⟨⟨md 1 (by decide), hm.1, zH_G, zR_G, ⟨u0 8, u0 8⟩, zcG rfl (show (1:Int) ≠ 4 by decide)⟩, rfl, rfl, rfl, ?_⟩
    show (leB 1 _ ++ msgB m).length ≤ 5000000
    have := hm.2
    simp only [List.length_append, leB_length]; omega
  · refine TP.bind TP.hold fun h hh => ?_
    dsimp only
    refine TP.ret (P := mailN) ⟨⟨md 2 (by decide), zMsg_G, hh.1, zR_G, ⟨u0 8, u0 8⟩, zcG rfl (show (2:Int) ≠ 4 by decide)⟩, by show ({ zM with Kind := 2, H := cHold h } : api_Mail) = _; rw [hh.2]; rfl, hh.2, rfl, ?_⟩
    show (leB 1 _ ++ holdB h).length ≤ 5000000
    have := holdB_len hh.1
    simp only [List.length_append, leB_length]; omega
  · refine TP.bind TP.hold fun h hh => ?_
    dsimp only
    refine TP.bind TP.reply fun x hx => ?_
    dsimp only
    refine TP.ret (P := mailN) ⟨⟨md 3 (by decide), zMsg_G, hh.1, hx.1, ⟨u0 8, u0 8⟩, zcG rfl (show (3:Int) ≠ 4 by decide)⟩, by show ({ zM with Kind := 3, H := cHold h, R := cReply x } : api_Mail) = _; rw [hh.2, hx.2]; rfl, hh.2, hx.2, ?_⟩
    show (leB 1 _ ++ (holdB h ++ replyB x)).length ≤ 5000000
    have := holdB_len hh.1
    have := replyB_len hx.1
    simp only [List.length_append, leB_length]; omega
  · refine TP.bind TP.of_ fun i hi => ?_
    dsimp only
    refine TP.bind (TP.next 9) fun e he => ?_
    dsimp only
    refine TP.bind (TP.next 9) fun p hp => ?_
    dsimp only
    refine TP.bind (TP.next 9) fun x hx => ?_
    dsimp only
    refine TP.bind TP.writes fun w hw => ?_
    dsimp only
    have he1 : isU 1 e := ⟨he.1, by rw [pw1]; omega⟩
    have hc : cmdG { zC with Kind := 3, ID := i, E := e, Epoch := IntKind.u64.wrap p, Index := IntKind.u64.wrap x, Writes := w } := ⟨kd 3 (by decide), hi, small_u hp.1 (by omega), small_u hx.1 (by omega), he1, zH_G, hw.1, zR_G, u0 2, Nat.zero_le _, no_mem, zL_G⟩
    refine TP.ret (P := mailN) ⟨⟨md 4 (by decide), zMsg_G, zH_G, zR_G, ⟨u0 8, u0 8⟩, ⟨.inl hc, fun _ => ⟨hc, rfl⟩⟩⟩, by show ({ zM with Kind := 4, C := { zC with Kind := 3, ID := cId i, E := e, Epoch := _, Index := _, Writes := cWrites w } } : api_Mail) = _; rw [hw.2]; rfl, rfl, rfl, ?_⟩
    have := cmdB_len hc
    show (leB 1 _ ++ byB (cmdB _)).length ≤ 5000000
    simp only [byB, List.length_append, leB_length] at this ⊢
    omega
  · refine TP.bind TP.of_ fun i hi => ?_
    dsimp only
    exact TP.ret (P := mailN) ⟨⟨md 5 (by decide), zMsg_G, zH_G, zR_G, hi, zcG rfl (show (5:Int) ≠ 4 by decide)⟩, rfl, rfl, rfl, by show (leB 1 _ ++ (leB 8 _ ++ leB 8 _)).length ≤ 5000000; simp only [List.length_append, leB_length]; decide⟩
  · refine TP.bind TP.hold fun h hh => ?_
    dsimp only
    refine TP.ret (P := mailN) ⟨⟨md 6 (by decide), zMsg_G, hh.1, zR_G, ⟨u0 8, u0 8⟩, zcG rfl (show (6:Int) ≠ 4 by decide)⟩, by show ({ zM with Kind := 6, H := cHold h } : api_Mail) = _; rw [hh.2]; rfl, hh.2, rfl, ?_⟩
    show (leB 1 _ ++ holdB h).length ≤ 5000000
    have := holdB_len hh.1
    simp only [List.length_append, leB_length]; omega
end Go.Proofs.Ytldfdainhdiffaa
