/- A book's bytes: what they are, and what is read of any bytes. -/
import Derived.Test.YtcnldkkdommmdaaPolicyBytesB
import Derived.Test.YtcnldkkdommmdaaPolicyBytesFltB
import Derived.Test.YtcnldkkdommmdaaPolicyBytesOctW
import Derived.Test.YtcnldkkdommmdaaPolicyBytesOctR
import Derived.Test.YtcnldkkdommmdaaPolicyBytesSlEq
set_option linter.unusedVariables false
set_option linter.unusedSimpArgs false
set_option maxRecDepth 100000
namespace Go.Proofs.Ytcnldkkdommmdaa
open Go Go.V
/-- A line that can be written. -/
def lineOK (x : policy_line) : Prop := 0 ≤ x.r.ID ∧ okRule x.r ∧ 0 ≤ x.r.Authority ∧ 0 ≤ x.from_ ∧ 0 ≤ x.to_
def wrapN (v : Int) : Nat := (IntKind.u64.wrap v).toNat
def lineB (x : policy_line) : List Int :=
  leB 8 x.r.ID.toNat ++ (leB 1 (wrapN x.r.From) ++ (leB 1 (wrapN x.r.To) ++ (leB 8 (fRank x.r.Lo).toNat ++ (leB 8 (fRank x.r.Hi).toNat ++ (leB 8 x.r.Authority.toNat ++ (leB 4 (wrapN x.r.Quota) ++ (leB 8 x.from_.toNat ++ leB 8 x.to_.toNat)))))))
theorem lineB_length (x : policy_line) : (lineB x).length = 54 := by simp only [lineB, List.length_append, leB_length]
def linesB : List policy_line → List Int
  | [] => []
  | x :: l => lineB x ++ linesB l
theorem linesB_length (l : List policy_line) : (linesB l).length = 54 * l.length := by
  induction l with
  | nil => rfl
  | cons x l ih =>
    have e : (linesB (x :: l)).length = (lineB x).length + (linesB l).length := by rw [linesB, List.length_append]
    rw [e, lineB_length, ih, List.length_cons, Nat.mul_succ, Nat.add_comm]
theorem linesB_cons (x : policy_line) (l : List policy_line) : linesB (x :: l) = lineB x ++ linesB l := by rw [linesB]
theorem linesB_snoc (l : List policy_line) (x : policy_line) : linesB (l ++ [x]) = linesB l ++ lineB x := by
  induction l with
  | nil => rw [List.nil_append, linesB_cons, linesB, List.append_nil, List.nil_append]
  | cons y l ih => rw [List.cons_append, linesB_cons, linesB_cons, ih, List.append_assoc]
theorem lineB_u8 (x : policy_line) : ∀ y ∈ lineB x, isU8 y := by
  intro y hy
  simp only [lineB, List.mem_append] at hy
  rcases hy with h | h | h | h | h | h | h | h | h <;> exact leB_u8 y h
theorem linesB_u8 (l : List policy_line) : ∀ y ∈ linesB l, isU8 y := by
  induction l with
  | nil => intro y hy; cases hy
  | cons x l ih =>
    intro y hy
    rcases List.mem_append.1 hy with h | h
    · exact lineB_u8 x y h
    · exact ih y h
def bookB (b : policy_Book) : List Int := leB 4 b.l.length ++ linesB b.l
theorem wrapN_nonneg (v : Int) : 0 ≤ IntKind.u64.wrap v := by rw [wrap_u64_eq]; omega
theorem encode_step (b : policy_Book) (n : Nat) (hn : n < b.l.length) (hl : b.l.length ≤ 1000000) (p : List Int) (hp : p.length ≤ 100000000) (hx : lineOK b.l[n]) :
    policy_Book_Encode_l1 (b.l.length : Int) b ({ p := p }, (n : Int)) = some (Sum.inl ({ p := p ++ lineB b.l[n] }, ((n + 1 : Nat) : Int))) := by
  have e1 : decide ((n : Int) < (b.l.length : Int)) = true := by simpa using hn
  have hw : IntKind.i64.wrap ((n : Int) + 1) = ((n + 1 : Nat) : Int) := by rw [wrap_i64] <;> omega
  obtain ⟨h1, ⟨h2, h3⟩, h4, h5, h6⟩ := hx
  have r1 := (fRank_nat h2).1
  have r2 := (fRank_nat h3).1
  simp only [policy_Book_Encode_l1, e1, cond_true, geto_lt hn, Option.bind_some]
  rw [wnum_int p (n := 8) (m := 8) h1 rfl (by decide) (by omega), Option.bind_some]
  rw [wnum_int _ (n := 1) (m := 1) (wrapN_nonneg _) rfl (by decide) (by simp only [List.length_append, leB_length]; omega), Option.bind_some]
  rw [wnum_int _ (n := 1) (m := 1) (wrapN_nonneg _) rfl (by decide) (by simp only [List.length_append, leB_length]; omega), Option.bind_some, rank_eq h2, Option.bind_some]
  rw [wnum_int _ (n := 8) (m := 8) r1 rfl (by decide) (by simp only [List.length_append, leB_length]; omega), Option.bind_some, rank_eq h3, Option.bind_some]
  rw [wnum_int _ (n := 8) (m := 8) r2 rfl (by decide) (by simp only [List.length_append, leB_length]; omega), Option.bind_some]
  rw [wnum_int _ (n := 8) (m := 8) h4 rfl (by decide) (by simp only [List.length_append, leB_length]; omega), Option.bind_some]
  rw [wnum_int _ (n := 4) (m := 4) (wrapN_nonneg _) rfl (by decide) (by simp only [List.length_append, leB_length]; omega), Option.bind_some]
  rw [wnum_int _ (n := 8) (m := 8) h5 rfl (by decide) (by simp only [List.length_append, leB_length]; omega), Option.bind_some]
  rw [wnum_int _ (n := 8) (m := 8) h6 rfl (by decide) (by simp only [List.length_append, leB_length]; omega), Option.bind_some, hw]
  simp only [lineB, wrapN, List.append_assoc]
theorem encode_eq (b : policy_Book) (hl : b.l.length ≤ 1000000) (hx : ∀ x ∈ b.l, lineOK x) : policy_Book_Encode (some b) = some (bookB b) := by
  have hw : IntKind.u64.wrap (b.l.length : Int) = (b.l.length : Int) := by rw [wrap_u64] <;> omega
  show ((policy_Book_Len (some b)).bind fun t589 => ((octet_Writer_Num ({ p := [] } : octet_Writer) (IntKind.u64.wrap t589) (4:Int)).bind fun t594 => ((policy_Book_Len (some b)).bind fun t599 => (loopO (policy_Book_Encode_l1 t599 b) (t594, (0:Int)))))) = _
  have hlen : policy_Book_Len (some b) = some (b.l.length : Int) := rfl
  rw [hlen, Option.bind_some, hw, wnum_int [] (n := 4) (m := 4) (Int.natCast_nonneg _) rfl (by decide) (by simp), Option.bind_some, Option.bind_some, Int.toNat_natCast, List.nil_append]
  have h := loop_range (body := policy_Book_Encode_l1 (b.l.length : Int) b) (fun i => (({ p := leB 4 b.l.length ++ linesB (b.l.take i) } : octet_Writer), (i : Int))) b.l.length (bookB b) ?_ ?_
  · simpa [linesB] using h
  · intro i hi
    rw [encode_step b i hi hl _ (by simp only [List.length_append, leB_length, linesB_length, List.length_take]; omega) (hx _ (List.getElem_mem hi)), List.take_succ_eq_append_getElem hi, linesB_snoc, List.append_assoc]
  · have e1 : decide ((b.l.length : Int) < (b.l.length : Int)) = false := by simp
    simp only [policy_Book_Encode_l1, e1, cond_false, inrO, octet_Writer_Done, Option.bind_some, Option.map_some, List.take_length, bookB]
theorem encode_none : policy_Book_Encode none = some (leB 4 0) := by
  show ((policy_Book_Len none).bind fun t548 => ((octet_Writer_Num ({ p := [] } : octet_Writer) (IntKind.u64.wrap t548) (4:Int)).bind fun t553 => ((policy_Book_Len none).bind fun t559 => (loopO (policy_Book_Encode_l0 t559 t553) ())))) = _
  have hlen : policy_Book_Len none = some 0 := rfl
  rw [hlen, Option.bind_some, show IntKind.u64.wrap 0 = 0 from rfl, wnum_int [] (n := 4) (m := 4) (by decide) rfl (by decide) (by simp), Option.bind_some, Option.bind_some, loopO_eq]
  rfl
/-- One line read, of whatever bytes. -/
theorem decode_step {r : octet_Reader} {b : policy_Book} {i : Int} {t : Int × octet_Reader} (hr : rdOK r) (hi : i < t.1) (h0 : 0 ≤ i) (hb : b.l.length ≤ 1000000) (ht : t.1 ≤ 1000000) (hx : ∀ x ∈ b.l, lineOK x) :
    ∃ r' x, policy_Decode_l1 t (r, b, i) = some (Sum.inl (r', { l := b.l ++ [x] }, i + 1)) ∧ rdOK r' ∧ lineOK x := by
  have e1 : decide (i < t.1) = true := by simpa using hi
  have hw : IntKind.i64.wrap (i + 1) = i + 1 := by rw [wrap_i64] <;> omega
  obtain ⟨v1, r1, a1, b1, c1, d1, _⟩ := rnum_ok hr 8 (by decide)
  obtain ⟨v2, r2, a2, b2, c2, d2, _⟩ := rnum_ok d1 1 (by decide)
  obtain ⟨v3, r3, a3, b3, c3, d3, _⟩ := rnum_ok d2 1 (by decide)
  obtain ⟨v4, r4, a4, b4, c4, d4, _⟩ := rnum_ok d3 8 (by decide)
  obtain ⟨v5, r5, a5, b5, c5, d5, _⟩ := rnum_ok d4 8 (by decide)
  obtain ⟨v6, r6, a6, b6, c6, d6, _⟩ := rnum_ok d5 8 (by decide)
  obtain ⟨v7, r7, a7, b7, c7, d7, _⟩ := rnum_ok d6 4 (by decide)
  obtain ⟨v8, r8, a8, b8, c8, d8, _⟩ := rnum_ok d7 8 (by decide)
  obtain ⟨v9, r9, a9, b9, c9, d9, _⟩ := rnum_ok d8 8 (by decide)
  obtain ⟨f4, k4, l4⟩ := back_int b4 (by have e : ((256 ^ 8 : Nat) : Int) = 18446744073709551616 := by decide
                                         omega)
  obtain ⟨f5, k5, l5⟩ := back_int b5 (by have e : ((256 ^ 8 : Nat) : Int) = 18446744073709551616 := by decide
                                         omega)
  have hroom : ∀ x : policy_line, room b.l [x] = true := fun x => room_le (by simp; omega)
  refine ⟨r9, { r := { ID := v1, From := IntKind.i64.wrap v2, To := IntKind.i64.wrap v3, Lo := f4, Hi := f5, Authority := v6, Quota := IntKind.i64.wrap v7 }, from_ := v8, to_ := v9 }, ?_, d9, ⟨b1, ⟨l4, l5⟩, b6, b8, b9⟩⟩
  have n8 : ((8 : Nat) : Int) = 8 := rfl
  have n1 : ((1 : Nat) : Int) = 1 := rfl
  have n4 : ((4 : Nat) : Int) = 4 := rfl
  rw [n8] at a1 a4 a5 a6 a8 a9
  rw [n1] at a2 a3
  rw [n4] at a7
  simp only [policy_Decode_l1, e1, cond_true, a1, a2, a3, a4, a5, a6, a7, a8, a9, k4, k5, Option.bind_some, gd_true (hroom _), hw]
end Go.Proofs.Ytcnldkkdommmdaa
