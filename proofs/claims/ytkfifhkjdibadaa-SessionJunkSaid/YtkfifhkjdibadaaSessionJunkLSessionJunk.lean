/- Any bytes, or a table's of which one is another one: the plain law. -/
import Derived.Test.YtkfifhkjdibadaaSessionJunkSesJ
import Derived.Test.YtkfifhkjdibadaaSessionJunkA
set_option linter.unusedVariables false
set_option linter.unusedSimpArgs false
set_option maxRecDepth 100000
namespace Go.Proofs.Ytkfifhkjdibadaa
open Go Go.V
theorem bXor_u8 (a b : Int) : isU8 (bXor .u8 a b) := by
  unfold bXor
  rw [wrap_u8_eq]
  exact ⟨by omega, by omega⟩
theorem set_u8 {l : List Int} (h : U8s l) (i : Nat) {x : Int} (hx : isU8 x) : U8s (l.set i x) := fun y hy => (List.mem_or_eq_of_mem_set hy).elim (h y) fun e => e ▸ hx
theorem rowB_u8 {x : session_row} (h : rowG x) : U8s (rowB x) := U8s.le.app (U8s.le.app (RD.reply h.2.2).1)
theorem tabB_u8 {l : List session_row} (h : ∀ x ∈ l, rowG x) : U8s (tabB l) := U8s.le.app (U8s.flat fun x hx => rowB_u8 (h x hx))
/-- A table of small answers. -/
def smallT (l : List session_row) (n : Nat) : Prop := Rise l ∧ l.length ≤ n ∧ ∀ x ∈ l, rowG x ∧ (rowB x).length ≤ 216
theorem small_put {l : List session_row} {n : Nat} (h : smallT l n) {s q : Int} {r : api_Reply} (hs : isU 8 s) (hq : isU 8 q) (hr : replyG r) (hl : (replyB r).length ≤ 200) : smallT (putL l (rw_ s q r)) (n + 1) := by
  obtain ⟨h1, h2, h3⟩ := h
  refine ⟨putL_rise h1 _, by have := putL_len h1 (rw_ s q r); omega, fun y hy => ?_⟩
  have := (putL_perm h1 (rw_ s q r)).mem_iff.1 hy
  rcases List.mem_cons.1 this with rfl | h4
  · exact ⟨⟨hs, hq, hr⟩, by simp only [rowB, rw_, List.length_append, leB_length]; omega⟩
  · exact h3 y (List.mem_filter.1 h4).1
theorem junk_loop {t : ref12_Tape} (ht : tapeOK t) : ∃ l, loopO (law14_SessionJunk_l2) (t, ({ l := [] } : session_Table), (0:Int)) = some ({ l := l } : session_Table) ∧ smallT l 5 := by
  have h := loop_inv (S := ref12_Tape × session_Table × Int) (body := law14_SessionJunk_l2) (fun s => tapeOK s.1 ∧ ∃ i : Nat, s.2.2 = (i : Int) ∧ i ≤ 5 ∧ smallT s.2.1.l i) (fun s => (5 - s.2.2).toNat) (fun r => smallT r.l 5) ?_ (s := (t, ({ l := [] } : session_Table), (0:Int))) ⟨ht, 0, rfl, by omega, rise_nil, Nat.le_refl _, fun x hx => by cases hx⟩
  · obtain ⟨r, h1, h2⟩ := h
    exact ⟨r.l, h1, h2⟩
  rintro ⟨t, ⟨l⟩, i'⟩ ⟨ht, i, hi, hi5, hs⟩
  dsimp only at ht hi hs
  subst hi
  by_cases hlt : i < 5
  · left
    obtain ⟨s, t1, e1, hs1, ht1⟩ := TP.next 6 (by decide) (by decide) t ht
    obtain ⟨q, t2, e2, hq1, ht2⟩ := TP.next 5 (by decide) (by decide) t1 ht1
    obtain ⟨r, t3, e3, hr3, ht3⟩ := TP.replyS t2 ht2
    have es : IntKind.u64.wrap s = s := by rw [wrap_u64] <;> omega
    have e0 : IntKind.i64.wrap ((1:Int) + q) = 1 + q := by rw [wrap_i64] <;> omega
    have eq : IntKind.u64.wrap (1 + q) = 1 + q := by rw [wrap_u64] <;> omega
    have ei : IntKind.i64.wrap ((i : Int) + (1:Int)) = ((i + 1 : Nat) : Int) := wrap_add (a := i) (b := 1) (by omega)
    have ed : decide ((i : Int) < (5:Int)) = true := decide_eq_true (by omega)
    have us : isU 8 s := isU_lt hs1.1 (by have : ((256 ^ 8 : Nat) : Int) = 18446744073709551616 := by decide
                                          omega)
    have uq : isU 8 (1 + q) := isU_lt (by omega) (by have : ((256 ^ 8 : Nat) : Int) = 18446744073709551616 := by decide
                                                     omega)
    simp only [law14_SessionJunk_l2, ed, cond_true, e1, e2, e3, Option.bind_some, es, e0, eq, put_eq hs.1 (by have := hs.2.1; omega) s (1 + q) r (by omega), ei]
    have h1 : ¬ (1 + q = 0) := by omega
    simp only [if_neg h1]
    by_cases h2 : seqOf s l ≥ 1 + q
    · simp only [if_pos h2]
      exact ⟨_, rfl, ⟨ht3, i + 1, rfl, by omega, hs.1, by have := hs.2.1; dsimp only; omega, hs.2.2⟩, by dsimp only; omega⟩
    · simp only [if_neg h2]
      exact ⟨_, rfl, ⟨ht3, i + 1, rfl, by omega, small_put hs us uq hr3.1.1 hr3.2⟩, by dsimp only; omega⟩
  · right
    have ed : decide ((i : Int) < (5:Int)) = false := decide_eq_false (by omega)
    exact ⟨{ l := l }, by simp only [law14_SessionJunk_l2, ed, cond_false, inrO, Option.map_some], hs.1, by have := hs.2.1; dsimp only; omega, hs.2.2⟩
theorem sessionJunk_plain {a0 a1 : List Int} {a2 a3 : Int} (o0 : a0.length ≤ maxLen ∧ ∀ x ∈ a0, (Lit.int .u8 x).wf = true) (o1 : a1.length ≤ maxLen ∧ ∀ x ∈ a1, (Lit.int .u8 x).wf = true) (o2 : (Lit.int .u16 a2).wf = true) (_ : (Lit.int .u8 a3).wf = true) : law14_SessionJunk a0 a1 a2 a3 = some true := by
  unfold law14_SessionJunk
  simp only [ses_awake, Option.bind_some, Bool.not_true, cond_false]
  cases h0 : decide ((a0.length : Int) > (1000:Int)) with
  | true => rfl
  | false =>
  cases h1 : decide ((a1.length : Int) > (200:Int)) with
  | true => rfl
  | false =>
  have l0 : a0.length ≤ 1000 := by have := of_decide_eq_false h0; omega
  have l1 : a1.length ≤ 200 := by have := of_decide_eq_false h1; omega
  have u0 : U8s a0 := fun y hy => lit_u8.1 (o0.2 y hy)
  obtain ⟨d, e, hd, hde⟩ := dec_anyS (p := a0) (by omega) u0
  simp only [cond_false, hd, Option.bind_some]
  have hj : law14_SessionJunk_j0 a1 a2 a3 () = some true := by
    obtain ⟨l, hl, hs1, hs2, hs3⟩ := junk_loop (t := { L := a1, I := 0 }) ⟨Int.le_refl _, by dsimp only; omega, fun x hx => lit_u8.1 (o1.2 x hx)⟩
    have hlen : (tabB l).length ≤ 1084 := by
      have := tabB_len (l := l) (m := 216) fun y hy => (hs3 y hy).2
      have h2 : l.length * 216 ≤ 5 * 216 := Nat.mul_le_mul_right _ hs2
      omega
    have henc := encode_eqS (fun x hx => (hs3 x hx).1) (by omega) (by omega)
    have hpos : 0 < (tabB l).length := by simp only [tabB, List.length_append, leB_length]; omega
    obtain ⟨q0, q1⟩ := lit_u16.1 o2
    have w : IntKind.i64.wrap a2 = a2 := by rw [wrap_i64] <;> omega
    have g1 : (!(((tabB l).length : Int) == (0:Int))) = true := by simp; intro h; rw [h] at hpos; simp at hpos
    obtain ⟨n, rfl⟩ := Int.eq_ofNat_of_zero_le q0
    have hm : Int.tmod (n : Int) ((tabB l).length : Int) = ((n % (tabB l).length : Nat) : Int) := by rw [Int.tmod_eq_emod_of_nonneg (Int.natCast_nonneg _)]; exact (Int.natCast_emod _ _).symm
    have hi : n % (tabB l).length < (tabB l).length := Nat.mod_lt _ hpos
    have hu2 : U8s ((tabB l).set (n % (tabB l).length) (bXor .u8 ((tabB l)[n % (tabB l).length]) a3)) := set_u8 (tabB_u8 fun x hx => (hs3 x hx).1) _ (bXor_u8 _ _)
    obtain ⟨d2, e2, hd2, hde2⟩ := dec_anyS (by rw [List.length_set]; omega) hu2
    simp only [law14_SessionJunk_j0, session_New, Option.bind_some, hl, law14_SessionJunk_j1, henc, gd_true g1, w, hm, geto_lt hi, Int.toNat_natCast, hd2]
    rcases hde2 with ⟨k1, _, k3⟩ | ⟨k1, k2⟩
    · subst k1
      simp only [k3, Option.bind_some, toStr_refl]
      rfl
    · subst k1; subst k2; rfl
  rcases hde with ⟨k1, _, k3⟩ | ⟨k1, k2⟩
  · subst k1
    simp only [k3, Option.bind_some, toStr_refl]
    exact hj
  · subst k1; subst k2
    exact hj
end Go.Proofs.Ytkfifhkjdibadaa
