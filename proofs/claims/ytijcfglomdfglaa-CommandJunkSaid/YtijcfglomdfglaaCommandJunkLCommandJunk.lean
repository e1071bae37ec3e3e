/- Any bytes, or a command's of which one is another one: the plain law. -/
import Derived.Test.YtijcfglomdfglaaCommandJunkLCommandApart
import Derived.Test.YtijcfglomdfglaaCommandJunkCodDJ
set_option linter.unusedVariables false
set_option linter.unusedSimpArgs false
set_option maxRecDepth 100000
namespace Go.Proofs.Ytijcfglomdfglaa
open Go Go.V
theorem bXor_u8 (a b : Int) : isU8 (bXor .u8 a b) := by
  unfold bXor
  rw [wrap_u8_eq]
  exact ⟨by omega, by omega⟩
theorem set_u8 {l : List Int} (h : U8s l) (i : Nat) {x : Int} (hx : isU8 x) : U8s (l.set i x) := fun y hy => (List.mem_or_eq_of_mem_set hy).elim (h y) fun e => e ▸ hx
theorem commandJunk_plain {a0 a1 : List Int} {a2 a3 : Int} (o0 : a0.length ≤ maxLen ∧ ∀ x ∈ a0, (Lit.int .u8 x).wf = true) (o1 : a1.length ≤ maxLen ∧ ∀ x ∈ a1, (Lit.int .u8 x).wf = true) (o2 : (Lit.int .u16 a2).wf = true) (_ : (Lit.int .u8 a3).wf = true) : law13_CommandJunk a0 a1 a2 a3 = some true := by
  unfold law13_CommandJunk
  simp only [awake_eq, Option.bind_some, Bool.not_true, cond_false]
  cases h0 : decide ((a0.length : Int) > (1000:Int)) with
  | true => rfl
  | false =>
  cases h1 : decide ((a1.length : Int) > (200:Int)) with
  | true => rfl
  | false =>
  have l0 : a0.length ≤ 1000 := by have := of_decide_eq_false h0; omega
  have l1 : a1.length ≤ 200 := by have := of_decide_eq_false h1; omega
  have u0 : U8s a0 := fun y hy => lit_u8.1 (o0.2 y hy)
  obtain ⟨d, e, hd, hde⟩ := dec_any (p := a0) (by omega) u0
  simp only [cond_false, hd, Option.bind_some]
  have hj : law13_CommandJunk_j0 a1 a2 a3 () = some true := by
    obtain ⟨c, t, hc, hcc, _⟩ := TP.command _ (tape_start (l := a1) (by omega) o1.2)
    have hc' : ref13_OfCommand { L := a1, I := 0 } = some (c, t) := hc
    unfold law13_CommandJunk_j0
    have hlen := cmdB_len hcc.1
    have hpos : 0 < (cmdB c).length := by simp only [cmdB, List.length_append, leB_length]; omega
    obtain ⟨q0, q1⟩ := lit_u16.1 o2
    have w : IntKind.i64.wrap a2 = a2 := by rw [wrap_i64] <;> omega
    have g1 : (!(((cmdB c).length : Int) == (0:Int))) = true := by simp; intro h; rw [h] at hpos; simp at hpos
    obtain ⟨n, rfl⟩ := Int.eq_ofNat_of_zero_le q0
    have hm : Int.tmod (n : Int) ((cmdB c).length : Int) = ((n % (cmdB c).length : Nat) : Int) := by rw [Int.tmod_eq_emod_of_nonneg (Int.natCast_nonneg _)]; exact (Int.natCast_emod _ _).symm
    have hi : n % (cmdB c).length < (cmdB c).length := Nat.mod_lt _ hpos
    have hu2 : U8s ((cmdB c).set (n % (cmdB c).length) (bXor .u8 ((cmdB c)[n % (cmdB c).length]) a3)) := set_u8 (cmdB_u8 hcc.1) _ (bXor_u8 _ _)
    obtain ⟨d2, e2, hd2, hde2⟩ := dec_any (by rw [List.length_set]; omega) hu2
    simp only [hc', Option.bind_some, encode_G hcc.1, gd_true g1, w, hm, geto_lt hi, Int.toNat_natCast, hd2]
    rcases hde2 with ⟨k1, k2, k3⟩ | ⟨k1, k2⟩
    · subst k1
      simp only [encode_G k2, k3, Option.bind_some, toStr_refl]
      rfl
    · subst k1; rfl
  rcases hde with ⟨k1, k2, k3⟩ | ⟨k1, k2⟩
  · subst k1
    simp only [encode_G k2, k3, Option.bind_some, toStr_refl]
    exact hj
  · subst k1; subst k2
    exact hj
end Go.Proofs.Ytijcfglomdfglaa
