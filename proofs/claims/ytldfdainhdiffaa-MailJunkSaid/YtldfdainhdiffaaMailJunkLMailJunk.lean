/- Any bytes, or a mail's of which one is another one: the plain law. -/
import Derived.Test.YtldfdainhdiffaaMailJunkMailS
import Derived.Test.YtldfdainhdiffaaMailJunkA
set_option linter.unusedVariables false
set_option linter.unusedSimpArgs false
set_option maxRecDepth 100000
namespace Go.Proofs.Ytldfdainhdiffaa
open Go Go.V
theorem bXor_u8 (a b : Int) : isU8 (bXor .u8 a b) := by
  unfold bXor
  rw [wrap_u8_eq]
  exact ⟨by omega, by omega⟩
theorem set_u8 {l : List Int} (h : U8s l) (i : Nat) {x : Int} (hx : isU8 x) : U8s (l.set i x) := fun y hy => (List.mem_or_eq_of_mem_set hy).elim (h y) fun e => e ▸ hx
theorem mailJunk_plain {a0 a1 : List Int} {a2 a3 : Int} (o0 : a0.length ≤ maxLen ∧ ∀ x ∈ a0, (Lit.int .u8 x).wf = true) (o1 : a1.length ≤ maxLen ∧ ∀ x ∈ a1, (Lit.int .u8 x).wf = true) (o2 : (Lit.int .u16 a2).wf = true) (_ : (Lit.int .u8 a3).wf = true) : law17_MailJunk a0 a1 a2 a3 = some true := by
  unfold law17_MailJunk
  simp only [mawake_eq, Option.bind_some, Bool.not_true, cond_false]
  cases h0 : decide ((a0.length : Int) > (1000:Int)) with
  | true => rfl
  | false =>
  cases h1 : decide ((a1.length : Int) > (200:Int)) with
  | true => rfl
  | false =>
  have l0 : a0.length ≤ 1000 := by have := of_decide_eq_false h0; omega
  have l1 : a1.length ≤ 200 := by have := of_decide_eq_false h1; omega
  have u0 : U8s a0 := fun y hy => lit_u8.1 (o0.2 y hy)
  obtain ⟨d, e, hd, hde⟩ := mdec_any (p := a0) (by omega) u0
  simp only [cond_false, hd, Option.bind_some]
  have hj : law17_MailJunk_j0 a1 a2 a3 () = some true := by
    obtain ⟨c, t, hc, hcc, _⟩ := TP.mail _ (tape_start (l := a1) (by omega) o1.2)
    have hc' : law17_make1 { L := a1, I := 0 } = some (c, t) := hc
    unfold law17_MailJunk_j0
    have hlen := hcc.2.2.2.2
    have hpos : 0 < (mailB c).length := by simp only [mailB, List.length_append, leB_length]; omega
    obtain ⟨q0, q1⟩ := lit_u16.1 o2
    have w : IntKind.i64.wrap a2 = a2 := by rw [wrap_i64] <;> omega
    have g1 : (!(((mailB c).length : Int) == (0:Int))) = true := by simp; intro h; rw [h] at hpos; simp at hpos
    obtain ⟨n, rfl⟩ := Int.eq_ofNat_of_zero_le q0
    have hm : Int.tmod (n : Int) ((mailB c).length : Int) = ((n % (mailB c).length : Nat) : Int) := by rw [Int.tmod_eq_emod_of_nonneg (Int.natCast_nonneg _)]; exact (Int.natCast_emod _ _).symm
    have hi : n % (mailB c).length < (mailB c).length := Nat.mod_lt _ hpos
    have hu2 : U8s ((mailB c).set (n % (mailB c).length) (bXor .u8 ((mailB c)[n % (mailB c).length]) a3)) := set_u8 (mailB_u8 hcc.1) _ (bXor_u8 _ _)
    obtain ⟨d2, e2, hd2, hde2⟩ := mdec_any (by rw [List.length_set]; omega) hu2
    simp only [hc', Option.bind_some, mencode_G hcc.1, gd_true g1, w, hm, geto_lt hi, Int.toNat_natCast, hd2]
    rcases hde2 with ⟨k1, k2, k3⟩ | ⟨k1, k2⟩
    · subst k1
      simp only [mencode_G k2, k3, Option.bind_some, toStr_refl]
      rfl
    · subst k1; rfl
  rcases hde with ⟨k1, k2, k3⟩ | ⟨k1, k2⟩
  · subst k1
    simp only [mencode_G k2, k3, Option.bind_some, toStr_refl]
    exact hj
  · subst k1; subst k2
    exact hj
end Go.Proofs.Ytldfdainhdiffaa
