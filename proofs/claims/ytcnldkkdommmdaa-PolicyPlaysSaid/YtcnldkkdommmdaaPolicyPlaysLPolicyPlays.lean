/- The plain law: PolicyPlays' model answers true. -/
import Derived.Test.YtcnldkkdommmdaaPolicyPlaysA
import Derived.Test.YtcnldkkdommmdaaPolicyPlaysRef
import Derived.Test.YtcnldkkdommmdaaPolicyPlaysC
set_option linter.unusedVariables false
set_option linter.unusedSimpArgs false
set_option maxRecDepth 100000
namespace Go.Proofs.Ytcnldkkdommmdaa
open Go Go.V
theorem revd_ok {l : List policy_line} (id e : Int) (h : ∀ x ∈ l, okRule x.r) : ∀ x ∈ l.map (revd id e), okRule x.r := by
  intro x hx
  obtain ⟨y, hy, rfl⟩ := List.mem_map.1 hx
  have := h y hy
  unfold revd
  cases hit id y <;> exact this
/-- What a play keeps. -/
def Inv (s : ref12_Tape × policy_Book × List ref11_Line × Int × Int) : Prop :=
  tapeOK s.1 ∧ s.2.2.1 = s.2.1.l.map conv ∧ (∀ x ∈ s.2.1.l, okRule x.r) ∧ 0 ≤ s.2.2.2.2 ∧ (s.2.1.l.length : Int) ≤ s.2.2.2.2 ∧ s.2.2.2.2 ≤ 20
theorem play_j2 {t : ref12_Tape} {b : policy_Book} {e i : Int} (ht : tapeOK t) (hb : ∀ x ∈ b.l, okRule x.r) (h0 : 0 ≤ i) (h1 : i < 20) (hl : (b.l.length : Int) ≤ i + 1) :
    law15_PolicyPlays_j2 e i (t, b, b.l.map conv) = some (Sum.inl (t, b, b.l.map conv, e, i + 1)) := by
  have hw : IntKind.i64.wrap (i + 1) = i + 1 := by rw [wrap_i64] <;> omega
  simp only [law15_PolicyPlays_j2, told_eq b (by omega) hb, Option.bind_some, Bool.not_true, cond_false, hw]
theorem play_j1 {t : ref12_Tape} {b : policy_Book} {e i : Int} (ht : tapeOK t) (he : 0 ≤ e) (hb : ∀ x ∈ b.l, okRule x.r) (h0 : 0 ≤ i) (h1 : i < 20) (hl : (b.l.length : Int) ≤ i) :
    ∃ s', law15_PolicyPlays_j1 (b.l.map conv) b i (t, e) = some (Sum.inl s') ∧ Inv s' ∧ s'.2.2.2.2 = i + 1 := by
  obtain ⟨r, t1, a1, hr, ht1, _, _⟩ := ofRule_ok ht
  obtain ⟨v, t2, a2, _, _, ht2, _⟩ := next_ok ht1 (n := 3) (by decide) (by decide)
  have hbl : b.l.length ≤ 1000000 := by omega
  unfold law15_PolicyPlays_j1
  simp only [a1, a2, Option.bind_some, refRevoke_eq b.l r.ID e he hbl, revoke_eq b r.ID e hbl, grant_eq b r e hbl]
  cases v == 0 with
  | true =>
    have hm : (b.l.any (hit r.ID) == b.l.any (hit r.ID)) = true := by simp
    have hb2 := revd_ok (l := b.l) r.ID e hb
    have h2 := play_j2 (t := t2) (b := { l := b.l.map (revd r.ID e) }) (e := e) (i := i) ht2 hb2 h0 h1 (by simp; omega)
    refine ⟨(t2, { l := b.l.map (revd r.ID e) }, (b.l.map (revd r.ID e)).map conv, e, i + 1), ?_, ?_, ?_⟩
    · simp only [cond_true, hm, Bool.not_true, cond_false, joinO, Option.bind_some]
      exact h2
    · exact ⟨ht2, rfl, hb2, by show 0 ≤ i + 1; omega, by simp; omega, by show i + 1 ≤ 20; omega⟩
    · rfl
  | false =>
    have hroom : room ((b.l.map (revd r.ID e)).map conv) [({ R := r, From := e, To := 0 } : ref11_Line)] = true := room_le (by simp; omega)
    have hb2 : ∀ x ∈ b.l.map (revd r.ID e) ++ [({ r := r, from_ := e, to_ := 0 } : policy_line)], okRule x.r := by
      intro x hx
      rcases List.mem_append.1 hx with hx | hx
      · exact revd_ok r.ID e hb x hx
      · simp at hx; subst hx; exact hr
    have h2 := play_j2 (t := t2) (b := { l := b.l.map (revd r.ID e) ++ [{ r := r, from_ := e, to_ := 0 }] }) (e := e) (i := i) ht2 hb2 h0 h1 (by simp; omega)
    refine ⟨(t2, { l := b.l.map (revd r.ID e) ++ [{ r := r, from_ := e, to_ := 0 }] }, (b.l.map (revd r.ID e) ++ [({ r := r, from_ := e, to_ := 0 } : policy_line)]).map conv, e, i + 1), ?_, ?_, ?_⟩
    · simp only [cond_false, gd_true hroom, joinO, Option.bind_some]
      have hc : (b.l.map (revd r.ID e)).map conv ++ [({ R := r, From := e, To := 0 } : ref11_Line)] = (b.l.map (revd r.ID e) ++ [({ r := r, from_ := e, to_ := 0 } : policy_line)]).map conv := by simp [conv]
      rw [hc]
      exact h2
    · exact ⟨ht2, rfl, hb2, by show 0 ≤ i + 1; omega, by simp; omega, by show i + 1 ≤ 20; omega⟩
    · rfl
theorem policyPlays_plain {a0 : List Int} {a1 : Bool} (o0 : a0.length ≤ maxLen ∧ ∀ x ∈ a0, (Lit.int .u8 x).wf = true) (_ : True) : law15_PolicyPlays a0 a1 = some true := by
  unfold law15_PolicyPlays
  rw [awake_true]
  simp only [Option.bind_some, Bool.not_true, cond_false]
  cases hlen : decide ((a0.length : Int) > 400) with
  | true => rfl
  | false =>
    have hlen' : a0.length ≤ 400 := by simp at hlen; omega
    simp only [cond_false, policy_New, Option.bind_some]
    refine loop_true Inv (fun s => (20 - s.2.2.2.2).toNat) ?_ ⟨⟨Int.le_refl 0, by show a0.length ≤ 1000000; omega, fun x hx => lit_u8.1 (o0.2 x hx)⟩, rfl, by simp, Int.le_refl 0, Int.le_refl 0, by show (0:Int) ≤ 20; decide⟩
    rintro ⟨t, b, ls, e, i⟩ ⟨ht, hls, hb, h0, hl, h1⟩
    simp only at ht hls hb h0 hl h1
    subst hls
    unfold law15_PolicyPlays_l0
    simp only
    cases hi : decide (i < 20) with
    | false => right; rfl
    | true =>
      have hi' : i < 20 := by simpa using hi
      left
      obtain ⟨v, t1, a, hv, hv2, ht1, _⟩ := next_ok ht (n := 2) (by decide) (by decide)
      obtain ⟨v', t1', a', hv', hv2', ht1', _⟩ := next_ok ht (n := 7) (by decide) (by decide)
      cases a1 with
      | true =>
        obtain ⟨s', k1, k2, k3⟩ := play_j1 (e := IntKind.u64.wrap (e + IntKind.u64.wrap v)) ht1 (by rw [wrap_u64_eq]; omega) hb h0 hi' hl
        exact ⟨s', by simp only [cond_true, a, Option.bind_some]; exact k1, k2, by rw [k3]; show (20 - (i + 1)).toNat < (20 - i).toNat; omega⟩
      | false =>
        obtain ⟨s', k1, k2, k3⟩ := play_j1 (e := IntKind.u64.wrap v') ht1' (by rw [wrap_u64_eq]; omega) hb h0 hi' hl
        exact ⟨s', by simp only [cond_true, cond_false, a', Option.bind_some]; exact k1, k2, by rw [k3]; show (20 - (i + 1)).toNat < (20 - i).toNat; omega⟩
end Go.Proofs.Ytcnldkkdommmdaa
