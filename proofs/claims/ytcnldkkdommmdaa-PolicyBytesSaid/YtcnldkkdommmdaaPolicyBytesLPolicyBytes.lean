/- The plain law: PolicyBytes' model answers true. -/
import Derived.Test.YtcnldkkdommmdaaPolicyBytesA
import Derived.Test.YtcnldkkdommmdaaPolicyBytesRef
import Derived.Test.YtcnldkkdommmdaaPolicyBytesC
import Derived.Test.YtcnldkkdommmdaaPolicyBytesDec
set_option linter.unusedVariables false
set_option linter.unusedSimpArgs false
set_option maxRecDepth 100000
namespace Go.Proofs.Ytcnldkkdommmdaa
open Go Go.V
def ruleGood (r : api_Rule) : Prop := 0 ≤ r.ID ∧ okRule r ∧ 0 ≤ r.Authority ∧ r.ID < 18446744073709551616 ∧ (0 ≤ r.From ∧ r.From < 256) ∧ (0 ≤ r.To ∧ r.To < 256) ∧ fNaN r.Lo = false ∧ fNaN r.Hi = false ∧ r.Authority < 18446744073709551616 ∧ (0 ≤ r.Quota ∧ r.Quota < 4294967296)
theorem line_good {r : api_Rule} {a b : Int} (h : ruleGood r) (ha : 0 ≤ a ∧ a < 18446744073709551616) (hb : 0 ≤ b ∧ b < 18446744073709551616) : lineGood { r := r, from_ := a, to_ := b } := by
  obtain ⟨h1, h2, h3, h4, h5, h6, h7, h8, h9, h10⟩ := h
  exact ⟨⟨h1, h2, h3, ha.1, hb.1⟩, h4, h5, h6, h7, h8, h9, h10, ha.2, hb.2⟩
theorem good_rule {x : policy_line} (h : lineGood x) : ruleGood x.r := by
  obtain ⟨⟨g1, g2, g4, g5, g6⟩, k1, k2, k3, k4, k5, k6, k7, k8, k9⟩ := h
  exact ⟨g1, g2, g4, k1, k2, k3, k4, k5, k6, k7⟩
theorem ofRule_good {t : ref12_Tape} (h : tapeOK t) : ∃ r t', ref13_OfRule t = some (r, t') ∧ ruleGood r ∧ tapeOK t' := by
  obtain ⟨v1, t1, a1, b1, c1, d1, e1⟩ := next_ok h (n := 3) (by decide) (by decide)
  obtain ⟨v2, t2, a2, b2, c2, d2, e2⟩ := next_ok d1 (n := 4) (by decide) (by decide)
  obtain ⟨v3, t3, a3, b3, c3, d3, e3⟩ := next_ok d2 (n := 4) (by decide) (by decide)
  obtain ⟨f4, t4, a4, b4, d4⟩ := float_good d3
  obtain ⟨f5, t5, a5, b5, d5⟩ := float_good d4
  obtain ⟨v6, t6, a6, b6, c6, d6, e6⟩ := next_ok d5 (n := 2) (by decide) (by decide)
  obtain ⟨v7, t7, a7, b7, c7, d7, e7⟩ := next_ok d6 (n := 3) (by decide) (by decide)
  refine ⟨{ ID := IntKind.u64.wrap v1, From := v2, To := v3, Lo := f4, Hi := f5, Authority := IntKind.u64.wrap v6, Quota := v7 }, t7, by simp only [ref13_OfRule, a1, a2, a3, a4, a5, a6, a7, Option.bind_some], ?_, d7⟩
  have w1 : IntKind.u64.wrap v1 = v1 := by rw [wrap_u64] <;> omega
  have w6 : IntKind.u64.wrap v6 = v6 := by rw [wrap_u64] <;> omega
  rw [w1, w6]
  exact ⟨b1, ⟨b4.1, b5.1⟩, b6, by show v1 < _; omega, ⟨b2, by show v2 < _; omega⟩, ⟨b3, by show v3 < _; omega⟩, b4.2, b5.2, by show v6 < _; omega, ⟨b7, by show v7 < _; omega⟩⟩
theorem revd_good {l : List policy_line} (id e : Int) (he : 0 ≤ e ∧ e < 18446744073709551616) (h : ∀ x ∈ l, lineGood x) : ∀ x ∈ l.map (revd id e), lineGood x := by
  intro x hx
  obtain ⟨y, hy, rfl⟩ := List.mem_map.1 hx
  have hg := h y hy
  unfold revd
  cases hit id y with
  | false => exact hg
  | true =>
    have hr := good_rule hg
    obtain ⟨⟨_, _, _, g5, _⟩, _, _, _, _, _, _, _, k8, _⟩ := hg
    refine line_good hr ⟨g5, k8⟩ ?_
    split <;> omega
def InvB (s : ref12_Tape × policy_Book × List ref11_Line × Int) : Prop :=
  tapeOK s.1 ∧ s.2.2.1 = s.2.1.l.map conv ∧ (∀ x ∈ s.2.1.l, lineGood x) ∧ 0 ≤ s.2.2.2 ∧ (s.2.1.l.length : Int) ≤ s.2.2.2 ∧ s.2.2.2 ≤ 8
theorem bytes_loop (a0 : List Int) (hl : a0.length ≤ 300) (hu : ∀ x ∈ a0, 0 ≤ x ∧ x < 256) : ∃ r : policy_Book × List ref11_Line, loopO law15_PolicyBytes_l1 (({ L := a0, I := (0:Int) } : ref12_Tape), ({ l := [] } : policy_Book), ([] : List ref11_Line), (0:Int)) = some r ∧ (r.2 = r.1.l.map conv ∧ r.1.l.length ≤ 8 ∧ ∀ x ∈ r.1.l, lineGood x) := by
  refine loop_inv InvB (fun s => (8 - s.2.2.2).toNat) (fun r : policy_Book × List ref11_Line => r.2 = r.1.l.map conv ∧ r.1.l.length ≤ 8 ∧ ∀ x ∈ r.1.l, lineGood x) ?_ ⟨⟨Int.le_refl 0, by show a0.length ≤ 1000000; omega, hu⟩, rfl, (by intro x hx; cases hx), Int.le_refl 0, Int.le_refl 0, by show (0:Int) ≤ 8; decide⟩
  rintro ⟨t, b, ls, i⟩ ⟨ht, hls, hb, h0, hl, h1⟩
  simp only at ht hls hb h0 hl h1
  subst hls
  unfold law15_PolicyBytes_l1
  simp only
  cases hi : decide (i < 8) with
  | false =>
    right
    exact ⟨(b, b.l.map conv), rfl, rfl, by show b.l.length ≤ 8; omega, hb⟩
  | true =>
    have hi' : i < 8 := by simpa using hi
    left
    obtain ⟨r, t1, a1, hr, ht1⟩ := ofRule_good ht
    obtain ⟨v, t2, a2, hv, hv2, ht2, _⟩ := next_ok ht1 (n := 6) (by decide) (by decide)
    have hw : IntKind.u64.wrap v = v := by rw [wrap_u64] <;> omega
    have hwi : IntKind.i64.wrap (i + 1) = i + 1 := by rw [wrap_i64] <;> omega
    have hbl : b.l.length ≤ 1000000 := by omega
    have hroom : room ((b.l.map (revd r.ID v)).map conv) [({ R := r, From := v, To := 0 } : ref11_Line)] = true := room_le (by simp; omega)
    have hc : (b.l.map (revd r.ID v)).map conv ++ [({ R := r, From := v, To := 0 } : ref11_Line)] = (b.l.map (revd r.ID v) ++ [({ r := r, from_ := v, to_ := 0 } : policy_line)]).map conv := by simp [conv]
    refine ⟨(t2, { l := b.l.map (revd r.ID v) ++ [{ r := r, from_ := v, to_ := 0 }] }, (b.l.map (revd r.ID v) ++ [({ r := r, from_ := v, to_ := 0 } : policy_line)]).map conv, i + 1), ?_, ⟨ht2, rfl, ?_, ?_, ?_, ?_⟩, ?_⟩
    · simp only [cond_true, a1, a2, Option.bind_some, hw, hwi, refRevoke_eq b.l r.ID v hv hbl, gd_true hroom, grant_eq b r v hbl, hc]
    · intro x hx
      rcases List.mem_append.1 hx with hx | hx
      · exact revd_good r.ID v ⟨hv, by omega⟩ hb x hx
      · simp at hx; subst hx
        exact line_good hr ⟨hv, by omega⟩ ⟨by decide, by decide⟩
    · show 0 ≤ i + 1; omega
    · simp only [List.length_append, List.length_map, List.length_cons, List.length_nil]; omega
    · show i + 1 ≤ 8; omega
    · show (8 - (i + 1)).toNat < (8 - i).toNat; omega
theorem sEq_refl (x : ByteArray) : sEq x x = true := by simp [sEq]
theorem xor_u8 (x y : Int) : isU8 (bXor .u8 x y) := by
  unfold bXor
  rw [wrap_u8_eq]
  exact ⟨by omega, by omega⟩
theorem bytes_j2 (b : policy_Book) (hl : b.l.length ≤ 8) (hb : ∀ x ∈ b.l, lineGood x) (a2 a3 : Int) (h2 : 0 ≤ a2 ∧ a2 < 65536) : law15_PolicyBytes_j2 b a2 a3 () = some true := by
  have hlen : (bookB b).length = 4 + 54 * b.l.length := by simp only [bookB, List.length_append, leB_length, linesB_length]
  have hw : IntKind.i64.wrap a2 = a2 := by rw [wrap_i64] <;> omega
  have hne : (!(((bookB b).length : Int) == (0:Int))) = true := by
    have : ¬ ((bookB b).length : Int) = 0 := by omega
    simpa using this
  have ht : Int.tmod a2 ((bookB b).length : Int) = a2 % ((bookB b).length : Int) := Int.tmod_eq_emod_of_nonneg h2.1
  have hk0 : 0 ≤ a2 % ((bookB b).length : Int) := Int.emod_nonneg _ (by omega)
  have hk1 : a2 % ((bookB b).length : Int) < ((bookB b).length : Int) := Int.emod_lt_of_pos _ (by omega)
  obtain ⟨k, hk⟩ := Int.eq_ofNat_of_zero_le hk0
  have hk2 : k < (bookB b).length := by omega
  have hu : ∀ x ∈ bookB b, isU8 x := fun x hx => (List.mem_append.1 hx).elim (leB_u8 x) (linesB_u8 _ x)
  have hu2 : ∀ x ∈ (bookB b).set k (bXor .u8 (bookB b)[k] a3), isU8 x := by
    intro x hx
    rcases List.mem_or_eq_of_mem_set hx with h | h
    · exact hu x h
    · rw [h]; exact xor_u8 _ _
  obtain ⟨o, e, h3, h4⟩ := dec_any ((bookB b).set k (bXor .u8 (bookB b)[k] a3)) (by simp only [List.length_set]; omega) hu2
  simp only [law15_PolicyBytes_j2, encode_eq b (by omega) (fun x h => (hb x h).1), Option.bind_some, gd_true hne, hw, ht, hk, geto_lt hk2, Int.toNat_natCast, h3]
  rcases h4 with ⟨rfl, b', rfl, h5⟩ | ⟨rfl, rfl⟩
  · simp [h5, sEq_refl]
  · rfl
theorem policyBytes_plain {a0 a1 : List Int} {a2 a3 : Int} (o0 : a0.length ≤ maxLen ∧ ∀ x ∈ a0, (Lit.int .u8 x).wf = true) (o1 : a1.length ≤ maxLen ∧ ∀ x ∈ a1, (Lit.int .u8 x).wf = true) (o2 : (Lit.int .u16 a2).wf = true) (_ : (Lit.int .u8 a3).wf = true) : law15_PolicyBytes a0 a1 a2 a3 = some true := by
  unfold law15_PolicyBytes
  rw [awake_true]
  simp only [Option.bind_some, Bool.not_true, cond_false]
  cases hlen : decide ((a0.length : Int) > 300) with
  | true => rfl
  | false =>
    have hlen' : a0.length ≤ 300 := by simp at hlen; omega
    cases hlen1 : decide ((a1.length : Int) > 1000) with
    | true => rfl
    | false =>
      have hlen1' : a1.length ≤ 1000 := by simp at hlen1; omega
      obtain ⟨⟨b, ls⟩, e1, h1, h2, h3⟩ := bytes_loop a0 hlen' (fun x hx => lit_u8.1 (o0.2 x hx))
      simp only at h1 h2 h3
      subst h1
      simp only [cond_false, policy_New, Option.bind_some, e1]
      unfold law15_PolicyBytes_j0
      have hok : ∀ x ∈ b.l, okRule x.r := fun x h => (h3 x h).1.2.1
      obtain ⟨o, e, h4, h5⟩ := dec_any a1 (by omega) (fun x hx => lit_u8.1 (o1.2 x hx))
      simp only [encode_eq b (by omega) (fun x h => (h3 x h).1), Option.bind_some, dec_enc b (by omega) h3, told_eq b (by omega) hok, h4]
      have hj := bytes_j2 b h2 h3 a2 a3 (lit_u16.1 o2)
      rcases h5 with ⟨rfl, b', rfl, h6⟩ | ⟨rfl, rfl⟩
      · simp [sEq_refl, h6, joinO, hj]
      · simp [sEq_refl, joinO, hj]
end Go.Proofs.Ytcnldkkdommmdaa
