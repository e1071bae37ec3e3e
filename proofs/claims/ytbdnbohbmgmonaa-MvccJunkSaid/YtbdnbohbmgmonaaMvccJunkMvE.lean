/- Any bytes as a store, and a store's; plainly. -/
import Derived.Test.YtbdnbohbmgmonaaMvccJunkMvD
set_option linter.unusedVariables false
set_option linter.unusedSimpArgs false
set_option maxRecDepth 100000
namespace Go.Proofs.Ytbdnbohbmgmonaa
open Go Go.V
theorem left_ok {r : octet_Reader} (h : rdOK r) : ∃ a, octet_Reader_Left r = some a ∧ 0 ≤ a ∧ a ≤ 1000000000 ∧ a ≤ (r.p.length : Int) := by
  obtain ⟨p, b⟩ := r
  have := h.1
  cases b with
  | true => exact ⟨0, rfl, by omega, by omega, by omega⟩
  | false => exact ⟨(p.length : Int), rfl, by omega, by dsimp only at this; omega, Int.le_refl _⟩
noncomputable def rowF (r : octet_Reader) : Option (mvcc_row × octet_Reader) := (octet_Reader_Num r (8:Int)).bind fun a => (octet_Reader_Left a.2).bind fun q => (octet_Reader_Count a.2 q).bind fun c => (loopO (mvcc_Decode_l3 c) ([], c.2, (0:Int))).bind fun s => some ({ rank := a.1, l := s.2 }, s.1)
theorem l3_body (c : Int × octet_Reader) (r : octet_Reader) (acc : List mvcc_Version) (i : Int) (h : i < c.1) : mvcc_Decode_l3 c (acc, r, i) = (verF r).bind fun t => gd (room acc [t.1]) (some (Sum.inl (acc ++ [t.1], t.2, IntKind.i64.wrap (i + (1:Int))))) := by
  have e : decide (i < c.1) = true := decide_eq_true h
  simp only [mvcc_Decode_l3, e, cond_true, verF, Option.bind_assoc, Option.bind_some]
theorem l3_end (c : Int × octet_Reader) (r : octet_Reader) (acc : List mvcc_Version) (i : Int) (h : ¬ i < c.1) : mvcc_Decode_l3 c (acc, r, i) = some (Sum.inr (r, acc)) := by
  have e : decide (i < c.1) = false := decide_eq_false h
  simp only [mvcc_Decode_l3, e, cond_false, inrO, Option.map_some]
theorem EX.row : EX rowF (fun b x => rB x ∧ b = rowB x) := fun r hr => by
  obtain ⟨x, r1, h1, h2, b, ⟨h3, rfl⟩, h4⟩ := EX.num 8 (by decide) rfl r hr
  have h1' : octet_Reader_Num r (8:Int) = some (x, r1) := h1
  obtain ⟨a, hq, ha0, ha1, _⟩ := left_ok h2
  obtain ⟨c, r2, k1, k2, b2, ⟨⟨k3, k3'⟩, rfl⟩, k4⟩ := EX.cnt ha0 ha1 r1 h2
  obtain ⟨r3, acc, m1, m2, m3, m4, m5⟩ := EX.loop (body := mvcc_Decode_l3 (c, r2)) (fun r acc i => (acc, r, i)) (fun r acc => (r, acc)) EX.ver c (by omega) (fun r acc i h => l3_body (c, r2) r acc i h) (fun r acc i h => l3_end (c, r2) r acc i h) r2 k2 k3
  refine ⟨{ rank := x, l := acc }, r3, ?_, m2, _, ⟨⟨h3, m3, by dsimp only; omega⟩, rfl⟩, fun hb => ?_⟩
  · simp only [rowF, h1', Option.bind_some, hq, k1, m1]
  · obtain ⟨q1, q2⟩ := m5 hb
    obtain ⟨q3, q4⟩ := k4 q1
    obtain ⟨q5, q6⟩ := h4 q3
    refine ⟨q5, ?_⟩
    have e : c.toNat = acc.length := by omega
    rw [q6, q4, q2, e]
    simp only [rowB, List.append_assoc]
theorem ver_len (v : mvcc_Version) : 1 ≤ (verB v).length := by simp only [verB, List.length_append, leB_length]; omega
theorem flat_ge {β : Type} (e : β → List Int) (h : ∀ x, 1 ≤ (e x).length) : ∀ l : List β, l.length ≤ (l.map e).flatten.length
  | [] => Nat.le_refl _
  | x :: l => by
    have := flat_ge e h l
    have := h x
    rw [List.map_cons, List.flatten_cons, List.length_append, List.length_cons]; omega
theorem RD.row {x : mvcc_row} (h : rB x) : RD rowF (rowB x) x := by
  obtain ⟨rank, l⟩ := x
  obtain ⟨h1, h2, h3⟩ := h
  refine ⟨U8s.le.app (U8s.le.app (U8s.flat fun v hv => (RD.ver (h2 v hv)).1)), fun q hq hlen => ?_⟩
  have hlen' : 8 + (4 + (l.map verB).flatten.length) + q.length ≤ 1000000000 := by simpa only [rowB, List.length_append, leB_length] using hlen
  have hu : U8s ((l.map verB).flatten ++ q) := (U8s.flat fun v hv => (RD.ver (h2 v hv)).1).app hq
  have hge := flat_ge verB ver_len l
  have k1 := (RD.n8 h1).2 (leB 4 l.length ++ ((l.map verB).flatten ++ q)) (U8s.le.app hu) (by simp only [List.length_append, leB_length]; omega)
  have k2 := (RD.cnt (a := ((leB 4 l.length ++ ((l.map verB).flatten ++ q)).length : Int)) l.length (by simp only [List.length_append, leB_length]; omega) (by simp only [List.length_append, leB_length]; omega)).2 ((l.map verB).flatten ++ q) hu (by simp only [List.length_append, leB_length]; omega)
  have k3 := RD.loop (body := mvcc_Decode_l3 ((l.length : Int), { p := (l.map verB).flatten ++ q, bad := false })) (fun r acc i => (acc, r, i)) (fun r acc => (r, acc)) l verB id (by omega) (fun v hv => RD.ver (h2 v hv)) (fun r acc i h => l3_body _ r acc i h) (fun r acc => l3_end _ r acc _ (by dsimp only; omega)) q hq (by omega)
  rw [List.map_id] at k3
  have e : rowB { rank := rank, l := l } ++ q = leB 8 rank.toNat ++ (leB 4 l.length ++ ((l.map verB).flatten ++ q)) := by simp only [rowB, List.append_assoc]
  rw [e]
  have hleft : octet_Reader_Left { p := leB 4 l.length ++ ((l.map verB).flatten ++ q), bad := false } = some ((leB 4 l.length ++ ((l.map verB).flatten ++ q)).length : Int) := rfl
  simp only [rowF, k1, Option.bind_some, hleft, k2, k3]
theorem l1_body (c : Int × octet_Reader) (r : octet_Reader) (acc : List mvcc_row) (i : Int) (h : i < c.1) : mvcc_Decode_l1 c (r, { rows := acc }, i) = (rowF r).bind fun t => gd (room acc [t.1]) (some (Sum.inl (t.2, ({ rows := acc ++ [t.1] } : mvcc_Store), IntKind.i64.wrap (i + (1:Int))))) := by
  have e : decide (i < c.1) = true := decide_eq_true h
  simp only [mvcc_Decode_l1, e, cond_true, rowF, Option.bind_assoc, Option.bind_some]
  rfl
theorem l1_end (c : Int × octet_Reader) (r : octet_Reader) (acc : List mvcc_row) (i : Int) (h : ¬ i < c.1) : mvcc_Decode_l1 c (r, { rows := acc }, i) = some (Sum.inr (r, { rows := acc })) := by
  have e : decide (i < c.1) = false := decide_eq_false h
  simp only [mvcc_Decode_l1, e, cond_false, inrO, Option.map_some]
/-! ### Is it right? -/
theorem inner_some (x : mvcc_row) (i : Int) (hl : x.l.length ≤ 1000000000) : loopO (mvcc_Store_right_l2 x i) (0:Int) = some (Sum.inl (IntKind.i64.wrap (i + (1:Int)))) ∨ loopO (mvcc_Store_right_l2 x i) (0:Int) = some (Sum.inr false) := by
  obtain ⟨r, h1, h2⟩ := loop_inv (body := mvcc_Store_right_l2 x i) (Inv := fun s => ∃ k : Nat, s = (k : Int) ∧ k ≤ x.l.length) (m := fun s => (x.l.length - s).toNat) (Q := fun r => r = Sum.inl (IntKind.i64.wrap (i + (1:Int))) ∨ r = Sum.inr false) (fun s hs => by
    obtain ⟨k, rfl, hk⟩ := hs
    by_cases h : k < x.l.length
    · have ew := wrap_succ (show k ≤ 4294967295 by omega)
      have nxt : ∃ s', (some (Sum.inl (((k + 1 : Nat) : Int))) : Option (Int ⊕ (Int ⊕ Bool))) = some (.inl s') ∧ (∃ k : Nat, s' = (k : Int) ∧ k ≤ x.l.length) ∧ (x.l.length - s').toNat < (x.l.length - (k : Int)).toNat := ⟨_, rfl, ⟨k + 1, rfl, by omega⟩, by omega⟩
      have bad : ∃ r, (some (Sum.inr (Sum.inr false)) : Option (Int ⊕ (Int ⊕ Bool))) = some (.inr r) ∧ (r = Sum.inl (IntKind.i64.wrap (i + (1:Int))) ∨ r = Sum.inr false) := ⟨_, rfl, .inr rfl⟩
      simp only [mvcc_Store_right_l2, lt_t h, cond_true, geto_lt h, Option.bind_some, ew, inrO, Option.map_some]
      have tail : ∀ (X : Option (Int ⊕ (Int ⊕ Bool))), X = (bif x.l[k].Del then (bif (decide (((x.l[k].Val).length : Int) > (0:Int))) then some (Sum.inr (Sum.inr false)) else some (Sum.inl (((k + 1 : Nat) : Int)))) else some (Sum.inl (((k + 1 : Nat) : Int)))) → (X = some (Sum.inl (((k + 1 : Nat) : Int))) ∨ X = some (Sum.inr (Sum.inr false))) := fun X hX => by
        subst hX
        cases x.l[k].Del with
        | false => exact .inl rfl
        | true =>
          cases decide (((x.l[k].Val).length : Int) > (0:Int)) with
          | false => exact .inl rfl
          | true => exact .inr rfl
      by_cases h0 : k = 0
      · subst h0
        have d0 : decide (((0 : Nat) : Int) > (0:Int)) = false := by decide
        rw [d0, cond_false]
        rcases tail _ rfl with e | e
        · rw [e]; exact .inl nxt
        · rw [e]; exact .inr bad
      · have d0 : decide ((k : Int) > (0:Int)) = true := by simp; omega
        have e2 : IntKind.i64.wrap ((k : Int) - (1:Int)) = ((k - 1 : Nat) : Int) := by
          have := wrap_sub (a := k) (b := 1) (by omega) (by omega)
          exact this
        have hk1 : k - 1 < x.l.length := by omega
        have ha : ∃ b, mvcc_ahead x.l[k - 1] x.l[k].Epoch x.l[k].Index = some b := by
          unfold mvcc_ahead
          cases decide (x.l[k - 1].Epoch < x.l[k].Epoch) <;> cases (x.l[k - 1].Epoch == x.l[k].Epoch) <;> exact ⟨_, rfl⟩
        obtain ⟨b, ha⟩ := ha
        rw [d0, cond_true, e2, geto_lt hk1, Option.bind_some, ha, Option.bind_some]
        cases b with
        | false => exact .inr bad
        | true =>
          simp only [Bool.not_true, cond_false]
          rcases tail _ rfl with e | e
          · rw [e]; exact .inl nxt
          · rw [e]; exact .inr bad
    · have e : k = x.l.length := by omega
      subst e
      exact .inr ⟨Sum.inl (IntKind.i64.wrap (i + (1:Int))), by simp [mvcc_Store_right_l2, inrO], .inl rfl⟩) (s := (0:Int)) ⟨0, rfl, Nat.zero_le _⟩
  rcases h2 with rfl | rfl
  · exact .inl h1
  · exact .inr h1
theorem right_some {l : List mvcc_row} (h : ∀ x ∈ l, rB x) (hl : l.length ≤ 1000000000) : ∃ b, mvcc_Store_right (some { rows := l }) = some b := by
  obtain ⟨r, h1, _⟩ := loop_inv (body := mvcc_Store_right_l0 { rows := l }) (Inv := fun s => ∃ k : Nat, s = (k : Int) ∧ k ≤ l.length) (m := fun s => (l.length - s).toNat) (Q := fun _ => True) (fun s hs => by
    obtain ⟨k, rfl, hk⟩ := hs
    by_cases hlt : k < l.length
    · have hx := h _ (List.getElem_mem hlt)
      have ew := wrap_succ (show k ≤ 4294967295 by omega)
      obtain ⟨f, hf, hF⟩ := back_int hx.1.1 (by have := hx.1.2; rw [pw8] at this; exact this)
      have hJ : mvcc_Store_right_j1 l[k] (k : Int) () = some (Sum.inl (((k + 1 : Nat) : Int))) ∨ mvcc_Store_right_j1 l[k] (k : Int) () = some (Sum.inr false) := by
        have := inner_some l[k] (k : Int) hx.2.2
        rw [ew] at this
        exact this
      have fin : ∀ X : Option (Unit ⊕ (Int ⊕ Bool)), (X = some (Sum.inl ()) ∨ X = some (Sum.inr (Sum.inr false))) → ((∃ s', joinO X (mvcc_Store_right_j1 l[k] (k : Int)) = some (.inl s') ∧ (∃ k : Nat, s' = (k : Int) ∧ k ≤ l.length) ∧ (l.length - s').toNat < (l.length - (k : Int)).toNat) ∨ (∃ r, joinO X (mvcc_Store_right_j1 l[k] (k : Int)) = some (.inr r) ∧ True)) := fun X hX => by
        rcases hX with rfl | rfl
        · rw [join_inl]
          rcases hJ with e | e
          · rw [e]; exact .inl ⟨_, rfl, ⟨k + 1, rfl, by omega⟩, by omega⟩
          · rw [e]; exact .inr ⟨_, rfl, trivial⟩
        · exact .inr ⟨false, rfl, trivial⟩
      simp only [mvcc_Store_right_l0, lt_t hlt, cond_true, geto_lt hlt, Option.bind_some, hf, rank_eq hF, inrO, Option.map_some]
      have tail : ∀ X : Option (Unit ⊕ (Int ⊕ Bool)), X = (bif (((l[k].l).length : Int) == (0:Int)) then some (Sum.inr (Sum.inr false)) else (bif (fRank f != l[k].rank) then some (Sum.inr (Sum.inr false)) else some (Sum.inl ()))) → (X = some (Sum.inl ()) ∨ X = some (Sum.inr (Sum.inr false))) := fun X hX => by
        subst hX
        cases (((l[k].l).length : Int) == (0:Int)) with
        | true => exact .inr rfl
        | false =>
          cases (fRank f != l[k].rank) with
          | true => exact .inr rfl
          | false => exact .inl rfl
      apply fin
      by_cases h0 : k = 0
      · subst h0
        have d0 : decide (((0 : Nat) : Int) > (0:Int)) = false := by decide
        rw [d0, cond_false]
        exact tail _ rfl
      · have d0 : decide ((k : Int) > (0:Int)) = true := by simp; omega
        have e2 : IntKind.i64.wrap ((k : Int) - (1:Int)) = ((k - 1 : Nat) : Int) := by
          have := wrap_sub (a := k) (b := 1) (by omega) (by omega)
          exact this
        have hk1 : k - 1 < l.length := by omega
        rw [d0, cond_true, e2, geto_lt hk1, Option.bind_some]
        cases decide (l[k - 1].rank ≥ l[k].rank) with
        | true => exact .inr rfl
        | false => exact tail _ rfl
    · have e : k = l.length := by omega
      subst e
      exact .inr ⟨true, by simp [mvcc_Store_right_l0, inrO], trivial⟩) (s := (0:Int)) ⟨0, rfl, Nat.zero_le _⟩
  exact ⟨r, h1⟩
theorem dec_any {p : List Int} (hp : p.length ≤ 1000000000) (hu : U8s p) : ∃ d e, mvcc_Decode p = some (d, e) ∧ ((e = 0 ∧ ∃ l, d = some { rows := l } ∧ mvcc_Store_Encode d = some p) ∨ (e = 5 ∧ d = none)) := by
  have hr0 : rdOK { p := p, bad := false } := ⟨hp, hu⟩
  obtain ⟨c, r1, e1, hr1, b, ⟨⟨h0, h1⟩, rfl⟩, h2⟩ := EX.cnt (a := (p.length : Int)) (by omega) (by omega) _ hr0
  have e1' : octet_Reader_Count { p := p, bad := false } (p.length : Int) = some (c, r1) := e1
  obtain ⟨r2, l, m1, m2, m3, m4, m5⟩ := EX.loop (body := mvcc_Decode_l1 (c, r1)) (fun r acc i => (r, ({ rows := acc } : mvcc_Store), i)) (fun r acc => (r, ({ rows := acc } : mvcc_Store))) EX.row c (by omega) (fun r acc i h => l1_body (c, r1) r acc i h) (fun r acc i h => l1_end (c, r1) r acc i h) r1 hr1 h0
  simp only [mvcc_Decode, octet_Read, mvcc_New, octet_Reader_Left, octet_Reader_Bad, cond_false, Option.bind_some, e1', m1, mvcc_Decode_j0, octet_Reader_End]
  cases hb : r2.bad with
  | true => exact ⟨_, _, rfl, .inr ⟨rfl, rfl⟩⟩
  | false =>
    simp only [Bool.not_false, cond_true, Option.bind_some]
    cases hz : ((r2.p.length : Int) == 0) with
    | false => exact ⟨_, _, rfl, .inr ⟨rfl, rfl⟩⟩
    | true =>
      obtain ⟨t, ht⟩ := right_some m3 (by omega)
      simp only [Bool.not_true, cond_false, ht, Option.bind_some]
      cases t with
      | false => exact ⟨_, _, rfl, .inr ⟨rfl, rfl⟩⟩
      | true =>
        have hz' : r2.p = [] := List.eq_nil_of_length_eq_zero (by have := eq_of_beq hz; omega)
        obtain ⟨q1, q2⟩ := m5 hb
        obtain ⟨_, q4⟩ := h2 q1
        have e3 : stoB l = p := by
          have q4' : p = leB 4 c.toNat ++ r1.p := q4
          rw [q4', q2, hz', List.append_nil, show c.toNat = l.length by omega]; rfl
        refine ⟨_, _, rfl, .inl ⟨rfl, l, rfl, ?_⟩⟩
        rw [encode_eq m3 (by omega) (by rw [e3]; exact hp), e3]
/-! ### A store that is right -/
theorem Inv.mem {n : Nat} {l : List mvcc_row} {m : List ref11_Version} (h : Inv n l m) {x : mvcc_row} (hx : x ∈ l) {v : mvcc_Version} (hv : v ∈ x.l) : ∃ y ∈ m, fRank y.At = x.rank ∧ ver y = v := by
  obtain ⟨y, hy, e⟩ := List.mem_map.1 (h.pm.mem_iff.1 (flat_mem.2 ⟨x, hx, rfl, hv⟩ : (x.rank, v) ∈ flatV l))
  exact ⟨y, hy, congrArg Prod.fst e, congrArg Prod.snd e⟩
theorem Inv.rb {n : Nat} {l : List mvcc_row} {m : List ref11_Version} (h : Inv n l m) (hn : n ≤ 10000) : ∀ x ∈ l, rB x := fun x hx => by
  refine ⟨?_, fun v hv => ?_, by have := h.good.vl x hx; omega⟩
  · obtain ⟨v, hv⟩ := List.exists_mem_of_ne_nil _ (h.ne x hx)
    obtain ⟨y, hy, e, _⟩ := h.mem hx hv
    have := fRank_nat (h.xg y hy).1
    rw [← e]
    exact ⟨this.1, by rw [pw8]; exact this.2⟩
  · obtain ⟨y, hy, _, rfl⟩ := h.mem hx hv
    obtain ⟨_, ⟨g1, g2, g3, g4⟩, g5, g6⟩ := h.xg y hy
    exact ⟨⟨g1, by rw [pw8]; exact g2⟩, ⟨g3, by rw [pw8]; exact g4⟩, g5, g6⟩
theorem flat_le {β : Type} (e : β → List Int) (m : Nat) : ∀ l : List β, (∀ x ∈ l, (e x).length ≤ m) → (l.map e).flatten.length ≤ l.length * m
  | [], _ => Nat.zero_le _
  | x :: l, h => by
    have h1 := flat_le e m l fun y hy => h y (by simp [hy])
    have h2 := h x (by simp)
    rw [List.map_cons, List.flatten_cons, List.length_append, List.length_cons, Nat.succ_mul]; omega
theorem Inv.len {n : Nat} {l : List mvcc_row} {m : List ref11_Version} (h : Inv n l m) (hn : n ≤ 100) : (stoB l).length ≤ 10000000 := by
  have hl := h.good.len
  have h1 : ∀ x ∈ l, (rowB x).length ≤ 50000 := fun x hx => by
    have hx2 := (h.rb (by omega) x hx).2.1
    have h3 := flat_le verB 300 x.l fun v hv => by
      have := (hx2 v hv).2.2.1
      simp only [verB, flB, byB, List.length_append, leB_length]; omega
    have h4 := h.good.vl x hx
    have h5 : x.l.length * 300 ≤ 100 * 300 := Nat.mul_le_mul_right _ (by omega)
    simp only [rowB, List.length_append, leB_length]; omega
  have h2 := flat_le rowB 50000 l h1
  have h3 : l.length * 50000 ≤ 100 * 50000 := Nat.mul_le_mul_right _ (by omega)
  simp only [stoB, List.length_append, leB_length]; omega
theorem Inv.enc {n : Nat} {l : List mvcc_row} {m : List ref11_Version} (h : Inv n l m) (hn : n ≤ 100) : mvcc_Store_Encode (some { rows := l }) = some (stoB l) :=
  encode_eq (h.rb (by omega)) (by have := h.good.len; omega) (by have := h.len hn; omega)
theorem stoB_u8 {n : Nat} {l : List mvcc_row} {m : List ref11_Version} (h : Inv n l m) (hn : n ≤ 100) : U8s (stoB l) := U8s.le.app (U8s.flat fun x hx => (RD.row (h.rb (by omega) x hx)).1)
end Go.Proofs.Ytbdnbohbmgmonaa
