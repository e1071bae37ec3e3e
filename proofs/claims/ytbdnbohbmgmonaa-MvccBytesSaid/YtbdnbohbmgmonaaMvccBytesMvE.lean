/- Any bytes as a store, and a store's; plainly. -/
import Derived.Test.YtbdnbohbmgmonaaMvccBytesMvD
set_option linter.unusedVariables false
set_option linter.unusedSimpArgs false
set_option maxRecDepth 100000
namespace Go.Proofs.Ytbdnbohbmgmonaa
open Go Go.V
theorem left_ok {r : octet_Reader} (h : rdOK r) : ∃ a, octet_Reader_Left r = some a ∧ 0 ≤ a ∧ a ≤ 1000000000 ∧ a ≤ (r.p.length : Int) := by
  obtain ⟨p, b⟩ := r
  have := h.1
  cases b with
  | true => exact ⟨0, rfl, by omega, by omega, by omega⟩
  | false => exact ⟨(p.length : Int), rfl, by omega, by dsimp only at this; omega, Int.le_refl _⟩
noncomputable def rowF (r : octet_Reader) : Option (mvcc_row × octet_Reader) := (octet_Reader_Num r (8:Int)).bind fun a => (octet_Reader_Left a.2).bind fun q => (octet_Reader_Count a.2 q).bind fun c => (loopO (mvcc_Decode_l3 c) ([], c.2, (0:Int))).bind fun s => some ({ rank := a.1, l := s.2 }, s.1)
theorem l3_body (c : Int × octet_Reader) (r : octet_Reader) (acc : List mvcc_Version) (i : Int) (h : i < c.1) : mvcc_Decode_l3 c (acc, r, i) = (verF r).bind fun t => gd (room acc [t.1]) (some (Sum.inl (acc ++ [t.1], t.2, IntKind.i64.wrap (i + (1:Int))))) := by
  have e : decide (i < c.1) = true := decide_eq_true h
  simp only [mvcc_Decode_l3, e, cond_true, verF, Option.bind_assoc, Option.bind_some]
theorem l3_end (c : Int × octet_Reader) (r : octet_Reader) (acc : List mvcc_Version) (i : Int) (h : ¬ i < c.1) : mvcc_Decode_l3 c (acc, r, i) = some (Sum.inr (r, acc)) := by
  have e : decide (i < c.1) = false := decide_eq_false h
  simp only [mvcc_Decode_l3, e, cond_false, inrO, Option.map_some]
theorem EX.row : EX rowF (fun b x => rB x ∧ b = rowB x) := fun r hr => by
  obtain ⟨x, r1, h1, h2, b, ⟨h3, rfl⟩, h4⟩ := EX.num 8 (by decide) rfl r hr
  have h1' : octet_Reader_Num r (8:Int) = some (x, r1) := h1
  obtain ⟨a, hq, ha0, ha1, _⟩ := left_ok h2
  obtain ⟨c, r2, k1, k2, b2, ⟨⟨k3, k3'⟩, rfl⟩, k4⟩ := EX.cnt ha0 ha1 r1 h2
  obtain ⟨r3, acc, m1, m2, m3, m4, m5⟩ := EX.loop (body := mvcc_Decode_l3 (c, r2)) (fun r acc i => (acc, r, i)) (fun r acc => (r, acc)) EX.ver c (by omega) (fun r acc i h => l3_body (c, r2) r acc i h) (fun r acc i h => l3_end (c, r2) r acc i h) r2 k2 k3
  refine ⟨{ rank := x, l := acc }, r3, ?_, m2, _, ⟨⟨h3, m3, by dsimp only; omega⟩, rfl⟩, fun hb => ?_⟩
  · simp only [rowF, h1', Option.bind_some, hq, k1, m1]
  · obtain ⟨q1, q2⟩ := m5 hb
    obtain ⟨q3, q4⟩ := k4 q1
    obtain ⟨q5, q6⟩ := h4 q3
    refine ⟨q5, ?_⟩
    have e : c.toNat = acc.length := by omega
    rw [q6, q4, q2, e]
    simp only [rowB, List.append_assoc]
theorem ver_len (v : mvcc_Version) : 1 ≤ (verB v).length := by simp only [verB, List.length_append, leB_length]; omega
theorem flat_ge {β : Type} (e : β → List Int) (h : ∀ x, 1 ≤ (e x).length) : ∀ l : List β, l.length ≤ (l.map e).flatten.length
  | [] => Nat.le_refl _
  | x :: l => by
    have := flat_ge e h l
    have := h x
    rw [List.map_cons, List.flatten_cons, List.length_append, List.length_cons]; omega
theorem RD.row {x : mvcc_row} (h : rB x) : RD rowF (rowB x) x := by
  obtain ⟨rank, l⟩ := x
  obtain ⟨h1, h2, h3⟩ := h
  refine ⟨U8s.le.app (U8s.le.app (U8s.flat fun v hv => (RD.ver (h2 v hv)).1)), fun q hq hlen => ?_⟩
  have hlen' : 8 + (4 + (l.map verB).flatten.length) + q.length ≤ 1000000000 := by simpa only [rowB, List.length_append, leB_length] using hlen
  have hu : U8s ((l.map verB).flatten ++ q) := (U8s.flat fun v hv => (RD.ver (h2 v hv)).1).app hq
  have hge := flat_ge verB ver_len l
  have k1 := (RD.n8 h1).2 (leB 4 l.length ++ ((l.map verB).flatten ++ q)) (U8s.le.app hu) (by simp only [List.length_append, leB_length]; omega)
  have k2 := (RD.cnt (a := ((leB 4 l.length ++ ((l.map verB).flatten ++ q)).length : Int)) l.length (by simp only [List.length_append, leB_length]; omega) (by simp only [List.length_append, leB_length]; omega)).2 ((l.map verB).flatten ++ q) hu (by simp only [List.length_append, leB_length]; omega)
  have k3 := RD.loop (body := mvcc_Decode_l3 ((l.length : Int), { p := (l.map verB).flatten ++ q, bad := false })) (fun r acc i => (acc, r, i)) (fun r acc => (r, acc)) l verB id (by omega) (fun v hv => RD.ver (h2 v hv)) (fun r acc i h => l3_body _ r acc i h) (fun r acc => l3_end _ r acc _ (by dsimp only; omega)) q hq (by omega)
  rw [List.map_id] at k3
  have e : rowB { rank := rank, l := l } ++ q = leB 8 rank.toNat ++ (leB 4 l.length ++ ((l.map verB).flatten ++ q)) := by simp only [rowB, List.append_assoc]
  rw [e]
  have hleft : octet_Reader_Left { p := leB 4 l.length ++ ((l.map verB).flatten ++ q), bad := false } = some ((leB 4 l.length ++ ((l.map verB).flatten ++ q)).length : Int) := rfl
  simp only [rowF, k1, Option.bind_some, hleft, k2, k3]
theorem l1_body (c : Int × octet_Reader) (r : octet_Reader) (acc : List mvcc_row) (i : Int) (h : i < c.1) : mvcc_Decode_l1 c (r, { rows := acc }, i) = (rowF r).bind fun t => gd (room acc [t.1]) (some (Sum.inl (t.2, ({ rows := acc ++ [t.1] } : mvcc_Store), IntKind.i64.wrap (i + (1:Int))))) := by
  have e : decide (i < c.1) = true := decide_eq_true h
  simp only [mvcc_Decode_l1, e, cond_true, rowF, Option.bind_assoc, Option.bind_some]
  rfl
theorem l1_end (c : Int × octet_Reader) (r : octet_Reader) (acc : List mvcc_row) (i : Int) (h : ¬ i < c.1) : mvcc_Decode_l1 c (r, { rows := acc }, i) = some (Sum.inr (r, { rows := acc })) := by
  have e : decide (i < c.1) = false := decide_eq_false h
  simp only [mvcc_Decode_l1, e, cond_false, inrO, Option.map_some]
/-! ### Is it right? -/
/-! ### A store that is right -/
theorem back_is {x : Nat} (hx : isF x) : ∃ f, number_Back (fRank x) = some f ∧ isF f ∧ fRank f = fRank x := by
  cases hn : fNaN x with
  | false => exact ⟨x, back_rank hx hn, hx, rfl⟩
  | true =>
    have e : fRank x = ((18446744073709551615 : Nat) : Int) := by unfold fRank; rw [hn]; rfl
    refine ⟨9223372036854775807, ?_, by unfold isF; decide, ?_⟩
    · rw [e, back_eq (by decide)]; rfl
    · rw [e]; decide
theorem Inv.mem {n : Nat} {l : List mvcc_row} {m : List ref11_Version} (h : Inv n l m) {x : mvcc_row} (hx : x ∈ l) {v : mvcc_Version} (hv : v ∈ x.l) : ∃ y ∈ m, fRank y.At = x.rank ∧ ver y = v := by
  obtain ⟨y, hy, e⟩ := List.mem_map.1 (h.pm.mem_iff.1 (flat_mem.2 ⟨x, hx, rfl, hv⟩ : (x.rank, v) ∈ flatV l))
  exact ⟨y, hy, congrArg Prod.fst e, congrArg Prod.snd e⟩
theorem Inv.rb {n : Nat} {l : List mvcc_row} {m : List ref11_Version} (h : Inv n l m) (hn : n ≤ 10000) : ∀ x ∈ l, rB x := fun x hx => by
  refine ⟨?_, fun v hv => ?_, by have := h.good.vl x hx; omega⟩
  · obtain ⟨v, hv⟩ := List.exists_mem_of_ne_nil _ (h.ne x hx)
    obtain ⟨y, hy, e, _⟩ := h.mem hx hv
    have := fRank_nat (h.xg y hy).1
    rw [← e]
    exact ⟨this.1, by rw [pw8]; exact this.2⟩
  · obtain ⟨y, hy, _, rfl⟩ := h.mem hx hv
    obtain ⟨_, ⟨g1, g2, g3, g4⟩, g5, g6⟩ := h.xg y hy
    exact ⟨⟨g1, by rw [pw8]; exact g2⟩, ⟨g3, by rw [pw8]; exact g4⟩, g5, g6⟩
theorem right_true {n : Nat} {l : List mvcc_row} {m : List ref11_Version} (h : Inv n l m) (hn : n ≤ 10000) : mvcc_Store_right (some { rows := l }) = some true := by
  have hl := h.good.len
  refine loop_range (fun k => (k : Int)) l.length true (fun k hk => ?_) (by simp [mvcc_Store_right_l0, inrO])
  have hm := List.getElem_mem hk
  have hxl := h.good.vl _ hm
  obtain ⟨v0, hv0⟩ := List.exists_mem_of_ne_nil _ (h.ne _ hm)
  obtain ⟨y0, hy0, e0, _⟩ := h.mem hm hv0
  obtain ⟨f, b1, b2, b3⟩ := back_is (h.xg y0 hy0).1
  rw [e0] at b1 b3
  have hne : (((l[k].l).length : Int) == (0:Int)) = false := by
    simpa using h.ne _ hm
  have hrk : (fRank f != l[k].rank) = false := by rw [b3]; simp
  have hJ : mvcc_Store_right_j1 l[k] (k : Int) () = some (Sum.inl (((k + 1 : Nat) : Int))) := by
    unfold mvcc_Store_right_j1
    refine loop_range (fun j => (j : Int)) (l[k].l).length _ (fun j hj => ?_) (by simp [mvcc_Store_right_l2, inrO, wrap_succ (show k ≤ 4294967295 by omega)])
    have hvm := List.getElem_mem hj
    obtain ⟨y, hy, _, ey⟩ := h.mem hm hvm
    have hdel : l[k].l[j].Del = true → l[k].l[j].Val = [] := fun hd => by
      have := h.cl y hy
      rw [← ey] at hd ⊢
      exact this hd
    have tail : (bif l[k].l[j].Del then (bif (decide (((l[k].l[j].Val).length : Int) > (0:Int))) then (some (Sum.inr (Sum.inr false)) : Option (Int ⊕ (Int ⊕ Bool))) else some (Sum.inl (((j + 1 : Nat) : Int)))) else some (Sum.inl (((j + 1 : Nat) : Int)))) = some (Sum.inl (((j + 1 : Nat) : Int))) := by
      cases hd : l[k].l[j].Del with
      | false => rfl
      | true => rw [hdel hd]; rfl
    simp only [mvcc_Store_right_l2, lt_t hj, cond_true, geto_lt hj, Option.bind_some, wrap_succ (show j ≤ 4294967295 by omega), inrO, Option.map_some]
    by_cases h0 : j = 0
    · subst h0
      have d0 : decide (((0 : Nat) : Int) > (0:Int)) = false := by decide
      rw [d0, cond_false]
      exact tail
    · have d0 : decide ((j : Int) > (0:Int)) = true := by simp; omega
      have e2 : IntKind.i64.wrap ((j : Int) - (1:Int)) = ((j - 1 : Nat) : Int) := by
        have := wrap_sub (a := j) (b := 1) (by omega) (by omega)
        exact this
      have hj1 : j - 1 < l[k].l.length := by omega
      have ha := ahd_eq (h.good.vg _ hm _ (List.getElem_mem hj1)) (h.good.vg _ hm _ hvm)
      have hlt := (h.vr _ hm).lt hj1 hj (by omega)
      rw [decide_eq_true hlt] at ha
      rw [d0, cond_true, e2, geto_lt hj1, Option.bind_some, ha, Option.bind_some]
      simp only [Bool.not_true, cond_false]
      exact tail
  simp only [mvcc_Store_right_l0, lt_t hk, cond_true, geto_lt hk, Option.bind_some, hne, cond_false, b1, rank_eq b2, hrk, inrO, Option.map_some]
  by_cases h0 : k = 0
  · subst h0
    have d0 : decide (((0 : Nat) : Int) > (0:Int)) = false := by decide
    rw [d0, cond_false, join_inl]
    exact hJ
  · have d0 : decide ((k : Int) > (0:Int)) = true := by simp; omega
    have e2 : IntKind.i64.wrap ((k : Int) - (1:Int)) = ((k - 1 : Nat) : Int) := by
      have := wrap_sub (a := k) (b := 1) (by omega) (by omega)
      exact this
    have hk1 : k - 1 < l.length := by omega
    have hlt : l[k - 1].rank < l[k].rank := h.rise.lt hk1 hk (by omega)
    have d1 : decide (l[k - 1].rank ≥ l[k].rank) = false := by simp; omega
    rw [d0, cond_true, e2, geto_lt hk1, Option.bind_some, d1, cond_false, join_inl]
    exact hJ
theorem flat_le {β : Type} (e : β → List Int) (m : Nat) : ∀ l : List β, (∀ x ∈ l, (e x).length ≤ m) → (l.map e).flatten.length ≤ l.length * m
  | [], _ => Nat.zero_le _
  | x :: l, h => by
    have h1 := flat_le e m l fun y hy => h y (by simp [hy])
    have h2 := h x (by simp)
    rw [List.map_cons, List.flatten_cons, List.length_append, List.length_cons, Nat.succ_mul]; omega
theorem Inv.len {n : Nat} {l : List mvcc_row} {m : List ref11_Version} (h : Inv n l m) (hn : n ≤ 100) : (stoB l).length ≤ 10000000 := by
  have hl := h.good.len
  have h1 : ∀ x ∈ l, (rowB x).length ≤ 50000 := fun x hx => by
    have hx2 := (h.rb (by omega) x hx).2.1
    have h3 := flat_le verB 300 x.l fun v hv => by
      have := (hx2 v hv).2.2.1
      simp only [verB, flB, byB, List.length_append, leB_length]; omega
    have h4 := h.good.vl x hx
    have h5 : x.l.length * 300 ≤ 100 * 300 := Nat.mul_le_mul_right _ (by omega)
    simp only [rowB, List.length_append, leB_length]; omega
  have h2 := flat_le rowB 50000 l h1
  have h3 : l.length * 50000 ≤ 100 * 50000 := Nat.mul_le_mul_right _ (by omega)
  simp only [stoB, List.length_append, leB_length]; omega
theorem Inv.enc {n : Nat} {l : List mvcc_row} {m : List ref11_Version} (h : Inv n l m) (hn : n ≤ 100) : mvcc_Store_Encode (some { rows := l }) = some (stoB l) :=
  encode_eq (h.rb (by omega)) (by have := h.good.len; omega) (by have := h.len hn; omega)
theorem row_len (x : mvcc_row) : 1 ≤ (rowB x).length := by simp only [rowB, List.length_append, leB_length]; omega
theorem dec_enc {n : Nat} {l : List mvcc_row} {m : List ref11_Version} (h : Inv n l m) (hn : n ≤ 100) : mvcc_Decode (stoB l) = some (some { rows := l }, 0) := by
  have hlen := h.len hn
  have hlen' : 4 + (l.map rowB).flatten.length ≤ 10000000 := by simpa only [stoB, List.length_append, leB_length] using hlen
  have hu : U8s (l.map rowB).flatten := U8s.flat fun x hx => (RD.row (h.rb (by omega) x hx)).1
  have hge := flat_ge rowB row_len l
  have k2 := (RD.cnt (a := ((stoB l).length : Int)) l.length (by simp only [stoB, List.length_append, leB_length]; omega) (by omega)).2 (l.map rowB).flatten hu (by rw [leB_length]; omega)
  have k3 := RD.loop (body := mvcc_Decode_l1 ((l.length : Int), { p := (l.map rowB).flatten, bad := false })) (fun r acc i => (r, ({ rows := acc } : mvcc_Store), i)) (fun r acc => (r, ({ rows := acc } : mvcc_Store))) l rowB id (by omega) (fun x hx => RD.row (h.rb (by omega) x hx)) (fun r acc i h => l1_body _ r acc i h) (fun r acc => l1_end _ r acc _ (by dsimp only; omega)) [] U8s.nil (by simp only [List.length_nil]; omega)
  rw [List.map_id, List.append_nil] at k3
  have k2' : octet_Reader_Count { p := stoB l, bad := false } ((stoB l).length : Int) = some ((l.length : Int), { p := (l.map rowB).flatten, bad := false }) := k2
  simp only [mvcc_Decode, octet_Read, mvcc_New, octet_Reader_Left, octet_Reader_Bad, cond_false, Option.bind_some, k2', k3, mvcc_Decode_j0, octet_Reader_End, Bool.not_false, cond_true, List.length_nil, right_true h (by omega)]
  rfl
end Go.Proofs.Ytbdnbohbmgmonaa
