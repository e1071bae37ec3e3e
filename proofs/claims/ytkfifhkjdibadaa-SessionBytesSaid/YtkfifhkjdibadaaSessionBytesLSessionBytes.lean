/- A table's bytes, and back; whatever is answered then: the plain law. -/
import Derived.Test.YtkfifhkjdibadaaSessionBytesSesJ
import Derived.Test.YtkfifhkjdibadaaSessionBytesA
set_option linter.unusedVariables false
set_option linter.unusedSimpArgs false
set_option maxRecDepth 100000
namespace Go.Proofs.Ytkfifhkjdibadaa
open Go Go.V
def rowN (x : session_row) : Prop := rowG x ∧ (rowB x).length ≤ 216 ∧ 0 < x.seq ∧ cReply x.r = x.r
def tabN (l : List session_row) (n : Nat) : Prop := Rise l ∧ l.length ≤ n ∧ ∀ x ∈ l, rowN x
theorem tabN.allR {l : List session_row} {n : Nat} (h : tabN l n) : AllR l := fun x hx => ⟨okR_of (h.2.2 x hx).1.2.2, (h.2.2 x hx).2.2.1⟩
theorem tabN_put {l : List session_row} {n : Nat} (h : tabN l n) {s q : Int} {r : api_Reply} (hs : isU 8 s) (hq : isU 8 q) (h0 : 0 < q) (hr : replyN r) (hl : (replyB r).length ≤ 200) : tabN (putL l (rw_ s q r)) (n + 1) := by
  obtain ⟨h1, h2, h3⟩ := h
  refine ⟨putL_rise h1 _, by have := putL_len h1 (rw_ s q r); omega, fun y hy => ?_⟩
  have := (putL_perm h1 (rw_ s q r)).mem_iff.1 hy
  rcases List.mem_cons.1 this with rfl | h4
  · exact ⟨⟨hs, hq, hr.1⟩, by simp only [rowB, rw_, List.length_append, leB_length]; omega, h0, hr.2⟩
  · exact h3 y (List.mem_filter.1 h4).1
theorem rowB_u8' {x : session_row} (h : rowG x) : U8s (rowB x) := U8s.le.app (U8s.le.app (RD.reply h.2.2).1)
theorem dec_encS {l : List session_row} (h : tabN l 1000) : session_Decode (tabB l) = some (some { l := l }, 0) := by
  obtain ⟨hr, hn, hg⟩ := h
  have hlen : (tabB l).length ≤ 220000 := by
    have := tabB_len (l := l) (m := 216) fun y hy => (hg y hy).2.1
    have h2 : l.length * 216 ≤ 1000 * 216 := Nat.mul_le_mul_right _ hn
    omega
  have hfl : (l.map rowB).flatten.length + 4 = (tabB l).length := by simp only [tabB, List.length_append, leB_length]; omega
  have hu : ∀ k : Nat, U8s ((l.drop k).map rowB).flatten := fun k => U8s.flat fun x hx => rowB_u8' (hg x (List.mem_of_mem_drop hx)).1
  have hmin : l.length ≤ (tabB l).length := by
    have : ∀ (k : List session_row), k.length ≤ (k.map rowB).flatten.length := fun k => by
      induction k with
      | nil => exact Nat.le_refl _
      | cons x k ih => simp only [List.map_cons, List.flatten_cons, List.length_append, List.length_cons, rowB, leB_length]; omega
    have := this l
    omega
  have e1 : octet_Reader_Count { p := tabB l, bad := false } ((tabB l).length : Int) = some ((l.length : Int), { p := (l.map rowB).flatten, bad := false }) := count_leB l.length _ (by omega) (by omega) (by have := hu 0; rwa [List.drop_zero] at this)
  have hloop : loopO (session_Decode_l1 ((l.length : Int), { p := (l.map rowB).flatten, bad := false })) ({ p := (l.map rowB).flatten, bad := false }, ({ l := [] } : session_Table), (0:Int)) = some (Sum.inl ({ p := [], bad := false }, ({ l := l } : session_Table))) := by
    have h := loop_range (body := session_Decode_l1 ((l.length : Int), { p := (l.map rowB).flatten, bad := false })) (fun i => (({ p := ((l.drop i).map rowB).flatten, bad := false } : octet_Reader), ({ l := l.take i } : session_Table), (i : Int))) l.length (Sum.inl ({ p := [], bad := false }, ({ l := l } : session_Table))) ?_ ?_
    · simpa using h
    · intro i hi
      have hx := hg _ (List.getElem_mem hi)
      have hd : l.drop i = l[i] :: l.drop (i + 1) := List.drop_eq_getElem_cons hi
      have hle : ((l.drop i).map rowB).flatten.length ≤ (l.map rowB).flatten.length := by
        have h3 : (l.map rowB).flatten = ((l.take i).map rowB).flatten ++ ((l.drop i).map rowB).flatten := by rw [← List.flatten_append, ← List.map_append, List.take_append_drop]
        rw [h3, List.length_append]; omega
      have hle' := hle
      rw [hd, List.map_cons, List.flatten_cons] at hle'
      simp only [rowB, List.length_append, leB_length] at hle'
      have hu' := hu (i + 1)
      have e : decide ((i : Int) < (l.length : Int)) = true := by simpa using hi
      have r1 := (RD.n8 hx.1.1).2 (leB 8 l[i].seq.toNat ++ (replyB l[i].r ++ ((l.drop (i + 1)).map rowB).flatten)) (U8s.le.app ((RD.reply hx.1.2.2).1.app hu')) (by simp only [List.length_append, leB_length]; omega)
      have r2 := (RD.n8 hx.1.2.1).2 (replyB l[i].r ++ ((l.drop (i + 1)).map rowB).flatten) ((RD.reply hx.1.2.2).1.app hu') (by simp only [List.length_append, leB_length]; omega)
      have r3 := (RD.reply hx.1.2.2).2 _ hu' (by omega)
      rw [hx.2.2.2] at r3
      dsimp only at r1 r2
      have hp : ((l.drop i).map rowB).flatten = leB 8 l[i].session.toNat ++ (leB 8 l[i].seq.toNat ++ (replyB l[i].r ++ ((l.drop (i + 1)).map rowB).flatten)) := by
        rw [hd, List.map_cons, List.flatten_cons]; simp only [rowB, List.append_assoc]
      rw [hp]
      simp only [session_Decode_l1, e, cond_true, r1, r2, r3, Option.bind_some]
      have hq0 : (l[i].seq == (0:Int)) = false := by have := hx.2.2.1; simp; omega
      rw [hq0, cond_false]
      have hlt : (l.take i).length = i := by rw [List.length_take]; omega
      have hroom : room (l.take i) [({ session := l[i].session, seq := l[i].seq, r := l[i].r } : session_row)] = true := room_le (by simp only [List.length_cons, List.length_nil]; omega)
      have ew : IntKind.i64.wrap ((i : Int) + (1:Int)) = ((i + 1 : Nat) : Int) := wrap_add (a := i) (b := 1) (by omega)
      have hgo : session_Decode_j2 ({ l := l.take i } : session_Table) (l[i].session, { p := leB 8 l[i].seq.toNat ++ (replyB l[i].r ++ ((l.drop (i + 1)).map rowB).flatten), bad := false }) (l[i].seq, { p := replyB l[i].r ++ ((l.drop (i + 1)).map rowB).flatten, bad := false }) (l[i].r, { p := ((l.drop (i + 1)).map rowB).flatten, bad := false }) (i : Int) () = some (Sum.inl (({ p := ((l.drop (i + 1)).map rowB).flatten, bad := false } : octet_Reader), ({ l := l.take (i + 1) } : session_Table), ((i + 1 : Nat) : Int))) := by
        simp only [session_Decode_j2, gd_true hroom, ew]
        rw [List.take_succ_eq_append_getElem hi]
      by_cases h0 : i = 0
      · have d2 : decide ((i : Int) > (0:Int)) = false := decide_eq_false (by omega)
        rw [d2, cond_false, join_inl]
        exact hgo
      · have d2 : decide ((i : Int) > (0:Int)) = true := decide_eq_true (by omega)
        have d3 : IntKind.i64.wrap ((i : Int) - (1:Int)) = ((i - 1 : Nat) : Int) := wrap_sub (a := i) (b := 1) (by omega) (by omega)
        have hlt2 : i - 1 < (l.take i).length := by omega
        have hlt3 : i - 1 < l.length := by omega
        rw [d2, cond_true, d3, geto_lt hlt2, Option.bind_some, List.getElem_take]
        have := hr.lt hlt3 hi (by omega)
        have d4 : decide (l[i - 1].session ≥ l[i].session) = false := decide_eq_false (by omega)
        rw [d4, cond_false, join_inl]
        exact hgo
    · have e : decide ((l.length : Int) < (l.length : Int)) = false := by simp
      simp only [session_Decode_l1, e, cond_false, inrO, Option.map_some, List.drop_length, List.map_nil, List.flatten_nil, List.take_length]
  have henc := encode_eqS (fun x hx => (hg x hx).1) (by omega) (show (tabB l).length ≤ 1000000000 by omega)
  have e2 := slEq_eq (tabB l) (tabB l) (by omega)
  simp only [session_Decode, octet_Read, session_New, octet_Reader_Left, octet_Reader_Bad, cond_false, Option.bind_some, e1, hloop]
  rw [join_inl]
  simp only [session_Decode_j0, octet_Reader_End, octet_Reader_Bad, Option.bind_some, Bool.not_false, cond_true, henc, e2]
  simp
theorem sessionBytes_plain {a0 : List Int} (o0 : a0.length ≤ maxLen ∧ ∀ x ∈ a0, (Lit.int .u8 x).wf = true) : law14_SessionBytes a0 = some true := by
  unfold law14_SessionBytes
  simp only [ses_awake, Option.bind_some, Bool.not_true, cond_false]
  cases h0 : decide ((a0.length : Int) > (400:Int)) with
  | true => rfl
  | false =>
  have h0 := of_decide_eq_false h0
  simp only [cond_false, session_New, Option.bind_some]
  have h := loop_inv (S := ref12_Tape × Option session_Table × Option session_Table × List ref11_Answer × Int) (body := law14_SessionBytes_l1) (fun s => ∃ (i : Nat) (l : List session_row), s.2.2.2.2 = (i : Int) ∧ i ≤ 16 ∧ tapeOK s.1 ∧ s.2.2.1 = some { l := l } ∧ tabN l i ∧ Rel l s.2.2.2.1) (fun s => (16 - s.2.2.2.2).toNat) (fun r => ∃ l m, r = Sum.inl (some { l := l }, m) ∧ tabN l 16 ∧ Rel l m) ?_ (s := (({ L := a0, I := (0:Int) } : ref12_Tape), some { l := [] }, some { l := [] }, [], (0:Int))) ⟨0, [], rfl, by omega, ⟨Int.le_refl _, by dsimp only; omega, fun x hx => lit_u8.1 (o0.2 x hx)⟩, rfl, ⟨rise_nil, Nat.le_refl _, fun x hx => by cases hx⟩, List.Perm.refl _⟩
  · obtain ⟨r, h1, h2⟩ := h
    obtain ⟨l, m, rfl, g1, g2⟩ := h2
    rw [h1, join_inl]
    simp only [law14_SessionBytes_j0, told_eq g1.1 g2 (by have := g1.2.1; omega) g1.allR, Option.bind_some]
  rintro ⟨t, z, tt, m, i'⟩ ⟨i, l, hi, hi2, ht, htt, hN, hrel⟩
  dsimp only at hi ht htt hrel
  subst hi; subst htt
  have hlen := hN.2.1
  by_cases hlt : i < 16
  · left
    obtain ⟨s, t1, e1, hs, ht1⟩ := TP.next 6 (by decide) (by decide) t ht
    obtain ⟨q, t2, e2, hq, ht2⟩ := TP.next 7 (by decide) (by decide) t1 ht1
    obtain ⟨r, t3, e3, hr3, ht3⟩ := TP.replyS t2 ht2
    have es : IntKind.u64.wrap s = s := by rw [wrap_u64] <;> omega
    have eq : IntKind.u64.wrap q = q := by rw [wrap_u64] <;> omega
    have ei : IntKind.i64.wrap ((i : Int) + (1:Int)) = ((i + 1 : Nat) : Int) := wrap_add (a := i) (b := 1) (by omega)
    have ed : decide ((i : Int) < (16:Int)) = true := decide_eq_true (by omega)
    have p8 : ((256 ^ 8 : Nat) : Int) = 18446744073709551616 := by decide
    have us : isU 8 s := isU_lt hs.1 (by omega)
    have uq : isU 8 q := isU_lt hq.1 (by omega)
    -- what stands behind the answer
    have fin : ∀ (l2 : List session_row) (m2 : List ref11_Answer) (e : Int), tabN l2 (i + 1) → Rel l2 m2 →
        ∃ s', (bif ((i : Int) == (8:Int)) then ((session_Table_Encode (some { l := l2 })).bind fun t939 => ((session_Decode t939).bind fun t949 => (bif (t949.2 != (0:Int)) then (inrO (inrO (some false))) else ((session_Table_Encode t949.1).bind fun t957 => ((session_Table_Encode (some { l := l2 })).bind fun t964 => (bif (!(sEq (toStr t957) (toStr t964))) then (inrO (inrO (some false))) else (some (Sum.inl (t3, z, t949.1, m2, ((i + 1 : Nat) : Int))))))))) ) else (some (Sum.inl (t3, z, some { l := l2 }, m2, ((i + 1 : Nat) : Int)))) : Option ((ref12_Tape × Option session_Table × Option session_Table × List ref11_Answer × Int) ⊕ ((Option session_Table × List ref11_Answer) ⊕ Bool))) = some (Sum.inl s') ∧
          (∃ (j : Nat) (l : List session_row), s'.2.2.2.2 = (j : Int) ∧ j ≤ 16 ∧ tapeOK s'.1 ∧ s'.2.2.1 = some { l := l } ∧ tabN l j ∧ Rel l s'.2.2.2.1) ∧ (16 - s'.2.2.2.2).toNat < (16 - (i : Int)).toNat := by
      intro l2 m2 e hN2 hrel2
      have hfin : (∃ (j : Nat) (l : List session_row), ((t3, z, some ({ l := l2 } : session_Table), m2, ((i + 1 : Nat) : Int)) : ref12_Tape × Option session_Table × Option session_Table × List ref11_Answer × Int).2.2.2.2 = (j : Int) ∧ j ≤ 16 ∧ tapeOK t3 ∧ some ({ l := l2 } : session_Table) = some { l := l } ∧ tabN l j ∧ Rel l m2) := ⟨i + 1, l2, rfl, by omega, ht3, rfl, hN2, hrel2⟩
      cases hb : ((i : Int) == (8:Int)) with
      | false => exact ⟨_, rfl, hfin, by dsimp only; omega⟩
      | true =>
        have hN3 : tabN l2 1000 := ⟨hN2.1, by have := hN2.2.1; omega, hN2.2.2⟩
        have hl2 := hN2.2.1
        have hle2 : (tabB l2).length ≤ 1000000000 := by
          have := tabB_len (l := l2) (m := 216) fun y hy => (hN2.2.2 y hy).2.1
          have h2 : l2.length * 216 ≤ 17 * 216 := Nat.mul_le_mul_right _ (by omega)
          omega
        have henc := encode_eqS (fun x hx => (hN2.2.2 x hx).1) (by omega) hle2
        have d0 : ((0:Int) != (0:Int)) = false := rfl
        simp only [cond_true, henc, Option.bind_some, dec_encS hN3, d0, cond_false, toStr_refl, Bool.not_true]
        exact ⟨_, rfl, hfin, by dsimp only; omega⟩
    simp only [law14_SessionBytes_l1, ed, cond_true, e1, e2, e3, Option.bind_some, es, eq, tell_eq hN.1 hrel (by omega) s q r, put_eq hN.1 (by omega) s q r (by omega), ei]
    have hN1 : tabN l (i + 1) := ⟨hN.1, by omega, hN.2.2⟩
    by_cases h1 : q = 0
    · simp only [if_pos h1]
      exact fin l m 0 hN1 hrel
    · simp only [if_neg h1]
      by_cases h2 : seqOf s l ≥ q
      · simp only [if_pos h2]
        exact fin l m 0 hN1 hrel
      · simp only [if_neg h2]
        have hrel2 := rel_put hN.1 hrel (rw_ s q r)
        rw [show (rw_ s q r).session = s from rfl] at hrel2
        exact fin _ _ 0 (tabN_put hN us uq (by omega) hr3.1 hr3.2) hrel2
  · right
    have ed : decide ((i : Int) < (16:Int)) = false := decide_eq_false (by omega)
    exact ⟨Sum.inl (some { l := l }, m), by simp only [law14_SessionBytes_l1, ed, cond_false, inrO, Option.map_some], l, m, rfl, ⟨hN.1, by omega, hN.2.2⟩, hrel⟩
end Go.Proofs.Ytkfifhkjdibadaa
