/- Any bytes, or a store's of which one is another one: the plain law. -/
import Derived.Test.YtbdnbohbmgmonaaMvccJunkMvE
set_option linter.unusedVariables false
set_option linter.unusedSimpArgs false
set_option maxRecDepth 100000
namespace Go.Proofs.Ytbdnbohbmgmonaa
open Go Go.V
theorem bXor_u8 (a b : Int) : isU8 (bXor .u8 a b) := by
  unfold bXor
  rw [wrap_u8_eq]
  exact ⟨by omega, by omega⟩
theorem set_u8 {l : List Int} (h : U8s l) (i : Nat) {x : Int} (hx : isU8 x) : U8s (l.set i x) := fun y hy => (List.mem_or_eq_of_mem_set hy).elim (h y) fun e => e ▸ hx
theorem mvccJunk_plain {a0 : List Int} {a1 : List law11_Ver} {a2 a3 : Int} (o0 : a0.length ≤ maxLen ∧ ∀ x ∈ a0, (Lit.int .u8 x).wf = true) (o1 : a1.length ≤ maxLen ∧ ∀ x ∈ a1, ok_law11_Ver x) (o2 : (Lit.int .u16 a2).wf = true) (_ : (Lit.int .u8 a3).wf = true) : law11_MvccJunk a0 a1 a2 a3 = some true := by
  obtain ⟨s, m, ok, h1, h2⟩ := fill_eq fun x hx => verG_of (o1.2 x hx)
  simp only [law11_MvccJunk, h1, mv_awake, Option.bind_some, Bool.not_true, cond_false]
  cases ok with
  | false => rfl
  | true =>
  obtain ⟨l⟩ := s
  have hI : Inv 60 l m := h2 rfl
  simp only [Bool.not_true, cond_false]
  cases h0 : decide ((a0.length : Int) > (2000:Int)) with
  | true => rfl
  | false =>
  have l0 : a0.length ≤ 2000 := by have := of_decide_eq_false h0; omega
  have u0 : U8s a0 := fun y hy => lit_u8.1 (o0.2 y hy)
  obtain ⟨d, e, hd, hde⟩ := dec_any (p := a0) (by omega) u0
  simp only [cond_false, hd, Option.bind_some]
  have hj : law11_MvccJunk_j0 ({ rows := l }, m, true) a2 a3 () = some true := by
    have hlen := hI.len (by omega)
    have henc := hI.enc (by omega)
    have hpos : 0 < (stoB l).length := by simp only [stoB, List.length_append, leB_length]; omega
    obtain ⟨q0, q1⟩ := lit_u16.1 o2
    have w : IntKind.i64.wrap a2 = a2 := by rw [wrap_i64] <;> omega
    have g1 : (!(((stoB l).length : Int) == (0:Int))) = true := by simp; intro h; rw [h] at hpos; simp at hpos
    obtain ⟨n, rfl⟩ := Int.eq_ofNat_of_zero_le q0
    have hm : Int.tmod (n : Int) ((stoB l).length : Int) = ((n % (stoB l).length : Nat) : Int) := by rw [Int.tmod_eq_emod_of_nonneg (Int.natCast_nonneg _)]; exact (Int.natCast_emod _ _).symm
    have hi : n % (stoB l).length < (stoB l).length := Nat.mod_lt _ hpos
    have hu2 : U8s ((stoB l).set (n % (stoB l).length) (bXor .u8 ((stoB l)[n % (stoB l).length]) a3)) := set_u8 (stoB_u8 hI (by omega)) _ (bXor_u8 _ _)
    obtain ⟨d2, e2, hd2, hde2⟩ := dec_any (by rw [List.length_set]; omega) hu2
    simp only [law11_MvccJunk_j0, henc, Option.bind_some, gd_true g1, w, hm, geto_lt hi, Int.toNat_natCast, hd2]
    rcases hde2 with ⟨k1, _, _, k3⟩ | ⟨k1, k2⟩
    · subst k1
      simp only [k3, Option.bind_some, toStr_refl]
      rfl
    · subst k1; subst k2; rfl
  rcases hde with ⟨k1, _, _, k3⟩ | ⟨k1, k2⟩
  · subst k1
    simp only [k3, Option.bind_some, toStr_refl]
    exact hj
  · subst k1; subst k2
    exact hj
end Go.Proofs.Ytbdnbohbmgmonaa
