/- A book is read back; and what is read of any bytes has just these bytes. -/
import Derived.Test.YtcnldkkdommmdaaPolicyBytesEnc
import Derived.Test.YtcnldkkdommmdaaPolicyBytesOctC
set_option linter.unusedVariables false
set_option linter.unusedSimpArgs false
set_option maxRecDepth 100000
namespace Go.Proofs.Ytcnldkkdommmdaa
open Go Go.V
/-- What a reading comes to. -/
def decOK (a : List Int) (o : Option policy_Book) (e : Int) : Prop :=
  (e = 0 ∧ ∃ b, o = some b ∧ policy_Book_Encode (some b) = some a) ∨ (e = 5 ∧ o = none)
theorem dec_tail (a : List Int) (ha : a.length ≤ 1000000) (r : octet_Reader) (b : policy_Book) (hl : b.l.length ≤ 1000000) (hx : ∀ x ∈ b.l, lineOK x) : ∃ o e, policy_Decode_j0 a (r, b) = some (o, e) ∧ decOK a o e := by
  have he := encode_eq b hl hx
  have hb : (bookB b).length ≤ 1000000000 := by
    simp only [bookB, List.length_append, leB_length, linesB_length]; omega
  unfold policy_Decode_j0
  simp only [octet_Reader_End, octet_Reader_Bad, Option.bind_some]
  cases r.bad with
  | true => exact ⟨none, 5, rfl, .inr ⟨rfl, rfl⟩⟩
  | false =>
    simp only [Bool.not_false, cond_true, Option.bind_some]
    cases ((r.p.length : Int) == 0) with
    | false => exact ⟨none, 5, rfl, .inr ⟨rfl, rfl⟩⟩
    | true =>
      simp only [Bool.not_true, cond_false, he, Option.bind_some, slEq_eq _ a hb]
      by_cases hab : bookB b = a
      · exact ⟨some b, 0, by simp [hab], .inl ⟨rfl, b, rfl, by rw [he, hab]⟩⟩
      · exact ⟨none, 5, by simp [hab], .inr ⟨rfl, rfl⟩⟩
theorem dec_any (a : List Int) (ha : a.length ≤ 100000) (hu : ∀ x ∈ a, isU8 x) : ∃ o e, policy_Decode a = some (o, e) ∧ decOK a o e := by
  unfold policy_Decode
  simp only [octet_Read, policy_New, octet_Reader_Left, octet_Reader_Bad, Option.bind_some, cond_false]
  have hr : rdOK { p := a, bad := false } := ⟨by show a.length ≤ 1000000000; omega, hu⟩
  obtain ⟨c, r', h1, h2, h3, h4⟩ := count_ok hr (a := (a.length : Int)) (by omega) (by omega)
  rw [h1, Option.bind_some]
  obtain ⟨res, e1, e2⟩ : ∃ res : octet_Reader × policy_Book, loopO (policy_Decode_l1 (c, r')) (r', ({ l := [] } : policy_Book), (0:Int)) = some res ∧ (res.2.l.length ≤ 1000000 ∧ ∀ x ∈ res.2.l, lineOK x) := by
    refine loop_inv (fun s : octet_Reader × policy_Book × Int => rdOK s.1 ∧ (s.2.1.l.length : Int) = s.2.2 ∧ 0 ≤ s.2.2 ∧ s.2.2 ≤ c ∧ ∀ x ∈ s.2.1.l, lineOK x) (fun s => (c - s.2.2).toNat) (fun res : octet_Reader × policy_Book => res.2.l.length ≤ 1000000 ∧ ∀ x ∈ res.2.l, lineOK x) ?_ ⟨h4, rfl, Int.le_refl 0, h2, by intro x hx; cases hx⟩
    rintro ⟨r, b, i⟩ ⟨g1, g2, g3, g4, g5⟩
    simp only at g1 g2 g3 g4 g5
    by_cases hi : i < c
    · obtain ⟨r2, x, k1, k2, k3⟩ := decode_step (t := (c, r')) g1 hi g3 (by omega) (by show c ≤ 1000000; omega) g5
      left
      refine ⟨_, k1, ⟨k2, ?_, ?_, ?_, ?_⟩, ?_⟩
      · simp only [List.length_append, List.length_cons, List.length_nil]; omega
      · show (0:Int) ≤ i + 1; omega
      · show i + 1 ≤ c; omega
      · intro y hy
        rcases List.mem_append.1 hy with h | h
        · exact g5 y h
        · simp at h; subst h; exact k3
      · show (c - (i + 1)).toNat < (c - i).toNat; omega
    · right
      have e : decide (i < c) = false := by simpa using hi
      exact ⟨(r, b), by simp only [policy_Decode_l1, e, cond_false, inrO, Option.map_some], by show b.l.length ≤ 1000000; omega, g5⟩
  rw [e1, Option.bind_some]
  obtain ⟨rr, bb⟩ := res
  exact dec_tail a (by omega) rr bb e2.1 e2.2
/-- A line that comes back as it was. -/
def lineGood (x : policy_line) : Prop := lineOK x ∧ x.r.ID < 18446744073709551616 ∧ (0 ≤ x.r.From ∧ x.r.From < 256) ∧ (0 ≤ x.r.To ∧ x.r.To < 256) ∧ fNaN x.r.Lo = false ∧ fNaN x.r.Hi = false ∧ x.r.Authority < 18446744073709551616 ∧ (0 ≤ x.r.Quota ∧ x.r.Quota < 4294967296) ∧ x.from_ < 18446744073709551616 ∧ x.to_ < 18446744073709551616
theorem p8 : (256:Nat) ^ 8 = 18446744073709551616 := by decide
theorem p4 : (256:Nat) ^ 4 = 4294967296 := by decide
theorem p1 : (256:Nat) ^ 1 = 256 := by decide
theorem rd8 (v : Int) (q : List Int) (h0 : 0 ≤ v) (h : v < 18446744073709551616) (hq : ∀ x ∈ q, isU8 x) : octet_Reader_Num { p := leB 8 v.toNat ++ q, bad := false } 8 = some (v, { p := q, bad := false }) := by
  have := rnum_leB 8 v.toNat q (by decide) (by rw [p8]; omega) hq
  have e : ((v.toNat : Nat) : Int) = v := by omega
  rw [e] at this; exact this
theorem rdw (k : Nat) (v : Int) (q : List Int) (hk : k ≤ 8) (h0 : 0 ≤ v) (h : v < ((256 ^ k : Nat) : Int)) (h2 : v < 18446744073709551616) (hq : ∀ x ∈ q, isU8 x) : octet_Reader_Num { p := leB k (wrapN v) ++ q, bad := false } (k : Int) = some (v, { p := q, bad := false }) := by
  have e1 : wrapN v = v.toNat := by unfold wrapN; rw [wrap_u64 h0 h2]
  rw [e1, rnum_leB k v.toNat q hk (by omega) hq]
  have e : ((v.toNat : Nat) : Int) = v := by omega
  rw [e]
theorem decode_back (t : Int × octet_Reader) (x : policy_line) (q : List Int) (b : policy_Book) (i : Int) (hi : i < t.1) (h0 : 0 ≤ i) (ht : t.1 ≤ 1000000) (hb : b.l.length ≤ 1000000) (hx : lineGood x) (hq : ∀ x ∈ q, isU8 x) :
    policy_Decode_l1 t ({ p := lineB x ++ q, bad := false }, b, i) = some (Sum.inl ({ p := q, bad := false }, { l := b.l ++ [x] }, i + 1)) := by
  obtain ⟨⟨g1, ⟨g2, g3⟩, g4, g5, g6⟩, k1, k2, k3, k4, k5, k6, k7, k8, k9⟩ := hx
  have e1 : decide (i < t.1) = true := by simpa using hi
  have hw : IntKind.i64.wrap (i + 1) = i + 1 := by rw [wrap_i64] <;> omega
  have hroom : ∀ x : policy_line, room b.l [x] = true := fun x => room_le (by simp; omega)
  obtain ⟨r1, r2⟩ := fRank_nat g2
  obtain ⟨r3, r4⟩ := fRank_nat g3
  have u : ∀ {a c : List Int}, (∀ x ∈ a, isU8 x) → (∀ x ∈ c, isU8 x) → ∀ x ∈ a ++ c, isU8 x := fun ha hc x hx => (List.mem_append.1 hx).elim (ha x) (hc x)
  have q9 : ∀ x_1 ∈ leB 8 x.to_.toNat ++ q, isU8 x_1 := u leB_u8 hq
  have q8 : ∀ x_1 ∈ leB 8 x.from_.toNat ++ (leB 8 x.to_.toNat ++ q), isU8 x_1 := u leB_u8 q9
  have q7 : ∀ x_1 ∈ leB 4 (wrapN x.r.Quota) ++ (leB 8 x.from_.toNat ++ (leB 8 x.to_.toNat ++ q)), isU8 x_1 := u leB_u8 q8
  have q6 := u (leB_u8 (n := 8) (v := x.r.Authority.toNat)) q7
  have q5 := u (leB_u8 (n := 8) (v := (fRank x.r.Hi).toNat)) q6
  have q4 := u (leB_u8 (n := 8) (v := (fRank x.r.Lo).toNat)) q5
  have q3 := u (leB_u8 (n := 1) (v := wrapN x.r.To)) q4
  have q2 := u (leB_u8 (n := 1) (v := wrapN x.r.From)) q3
  have a1 := rd8 x.r.ID _ g1 k1 q2
  have a2 := rdw 1 x.r.From _ (by decide) k2.1 (by rw [p1]; omega) (by omega) q3
  have a3 := rdw 1 x.r.To _ (by decide) k3.1 (by rw [p1]; omega) (by omega) q4
  have a4 := rd8 (fRank x.r.Lo) _ r1 r2 q5
  have a5 := rd8 (fRank x.r.Hi) _ r3 r4 q6
  have a6 := rd8 x.r.Authority _ g4 k6 q7
  have a7 := rdw 4 x.r.Quota _ (by decide) k7.1 (by rw [p4]; omega) (by omega) q8
  have a8 := rd8 x.from_ _ g5 k8 q9
  have a9 := rd8 x.to_ _ g6 k9 hq
  have n1 : ((1 : Nat) : Int) = 1 := rfl
  have n4 : ((4 : Nat) : Int) = 4 := rfl
  rw [n1] at a2 a3
  rw [n4] at a7
  have w1 : IntKind.i64.wrap x.r.From = x.r.From := by rw [wrap_i64] <;> omega
  have w2 : IntKind.i64.wrap x.r.To = x.r.To := by rw [wrap_i64] <;> omega
  have w3 : IntKind.i64.wrap x.r.Quota = x.r.Quota := by rw [wrap_i64] <;> omega
  have ee : lineB x ++ q = leB 8 x.r.ID.toNat ++ (leB 1 (wrapN x.r.From) ++ (leB 1 (wrapN x.r.To) ++ (leB 8 (fRank x.r.Lo).toNat ++ (leB 8 (fRank x.r.Hi).toNat ++ (leB 8 x.r.Authority.toNat ++ (leB 4 (wrapN x.r.Quota) ++ (leB 8 x.from_.toNat ++ (leB 8 x.to_.toNat ++ q)))))))) := by
    simp only [lineB, List.append_assoc]
  rw [ee]
  simp only [policy_Decode_l1, e1, cond_true, a1, a2, a3, a4, a5, a6, a7, a8, a9, back_rank g2 k4, back_rank g3 k5, Option.bind_some, gd_true (hroom _), hw, w1, w2, w3]
theorem dec_enc (b : policy_Book) (hl : b.l.length ≤ 1000) (hx : ∀ x ∈ b.l, lineGood x) : policy_Decode (bookB b) = some (some b, 0) := by
  have hok : ∀ x ∈ b.l, lineOK x := fun x h => (hx x h).1
  have hlen : (bookB b).length = 4 + 54 * b.l.length := by simp only [bookB, List.length_append, leB_length, linesB_length]
  unfold policy_Decode
  simp only [octet_Read, policy_New, octet_Reader_Left, octet_Reader_Bad, Option.bind_some, cond_false]
  have hc := count_leB b.l.length (linesB b.l) (a := ((bookB b).length : Int)) (by omega) (by omega) (linesB_u8 _)
  have hbb : ({ p := bookB b, bad := false } : octet_Reader) = { p := leB 4 b.l.length ++ linesB b.l, bad := false } := rfl
  rw [hbb, hc, Option.bind_some]
  have h := loop_range (body := policy_Decode_l1 ((b.l.length : Int), ({ p := linesB b.l, bad := false } : octet_Reader))) (fun i => (({ p := linesB (b.l.drop i), bad := false } : octet_Reader), ({ l := b.l.take i } : policy_Book), (i : Int))) b.l.length (({ p := [], bad := false } : octet_Reader), b) ?_ ?_
  · have h0 : loopO (policy_Decode_l1 ((b.l.length : Int), ({ p := linesB b.l, bad := false } : octet_Reader))) (({ p := linesB b.l, bad := false } : octet_Reader), ({ l := [] } : policy_Book), (0:Int)) = some (({ p := [], bad := false } : octet_Reader), b) := h
    rw [h0, Option.bind_some]
    have hb : (bookB b).length ≤ 1000000000 := by omega
    simp only [policy_Decode_j0, octet_Reader_End, octet_Reader_Bad, Option.bind_some, encode_eq b (by omega) hok, slEq_eq _ (bookB b) hb]
    simp
  · intro i hi
    rw [List.drop_eq_getElem_cons hi, linesB_cons, decode_back _ _ _ _ _ (by show (i : Int) < (b.l.length : Int); omega) (by omega) (by show (b.l.length : Int) ≤ 1000000; omega) (by simp only [List.length_take]; omega) (hx _ (List.getElem_mem hi)) (linesB_u8 _), List.take_succ_eq_append_getElem hi]
    rfl
  · have e1 : decide ((b.l.length : Int) < (b.l.length : Int)) = false := by simp
    simp only [policy_Decode_l1, e1, cond_false, inrO, Option.map_some, List.take_length, List.drop_length]
    rfl
end Go.Proofs.Ytcnldkkdommmdaa
