/- The reader of numbers. -/
import Derived.Test.YtbdhhmnncknhhaaLocksKeepsM
import Derived.Test.YtbdhhmnncknhhaaLocksKeepsGv
set_option linter.unusedVariables false
set_option linter.unusedSimpArgs false
set_option maxRecDepth 100000
namespace Go.Proofs.Ytbdhhmnncknhhaa
open Go Go.V
/-- A reader over bytes. -/
def rdOK (r : octet_Reader) : Prop := r.p.length ≤ 1000000000 ∧ ∀ x ∈ r.p, isU8 x
theorem rnum_loop (p : List Int) (b : Bool) (n : Nat) (hn : n ≤ 8) (hp : n ≤ p.length) (hu : ∀ x ∈ p, isU8 x) : loopO (octet_Reader_Num_l1 (n : Int) { p := p, bad := b }) ((0:Int), (0:Int)) = some ((valB (p.take n) : Nat) : Int) := by
  have h := loop_range (body := octet_Reader_Num_l1 (n : Int) { p := p, bad := b }) (fun i => ((i : Int), ((valB (p.take i) : Nat) : Int))) n ((valB (p.take n) : Nat) : Int) ?_ ?_
  · simpa [valB] using h
  · intro i hi
    have em : (if (8:Int) < (n : Int) then (8:Int) else (n : Int)) = (n : Int) := by rw [if_neg (by omega)]
    have e1 : decide ((i : Int) < (n : Int)) = true := by simpa using hi
    have e2 : IntKind.i64.wrap ((i : Int) + 1) = ((i + 1 : Nat) : Int) := by rw [wrap_i64] <;> omega
    have e3 : IntKind.i64.wrap ((8:Int) * (i : Int)) = ((8 * i : Nat) : Int) := by rw [wrap_i64] <;> omega
    have e4 : decide ((0:Int) ≤ ((8 * i : Nat) : Int)) = true := decide_eq_true (Int.natCast_nonneg _)
    have hi2 : i < p.length := by omega
    have hx := hu p[i] (List.getElem_mem hi2)
    have e5 : IntKind.u64.wrap p[i] = ((p[i].toNat : Nat) : Int) := by
      obtain ⟨h1, h2⟩ := hx
      rw [wrap_u64] <;> omega
    have e6 := valB_lt (xs := p.take i) fun x hx => hu x (List.mem_of_mem_take hx)
    rw [List.length_take, Nat.min_eq_left (by omega)] at e6
    have e7 := or_byte (x := p[i].toNat) e6 (by obtain ⟨h1, h2⟩ := hx; omega) (by omega)
    have e8 : valB (p.take (i + 1)) = valB (p.take i) + 256 ^ i * p[i].toNat := by
      rw [List.take_succ_eq_append_getElem hi2, valB_snoc, List.length_take, Nat.min_eq_left (by omega)]
    simp only [octet_Reader_Num_l1, em, e1, cond_true, geto_lt hi2, Option.bind_some, e2, e3, gd_true e4, e5, e7, e8]
  · have em : (if (8:Int) < (n : Int) then (8:Int) else (n : Int)) = (n : Int) := by rw [if_neg (by omega)]
    have e1 : decide ((n : Int) < (n : Int)) = false := by simp
    simp only [octet_Reader_Num_l1, em, e1, cond_false, inrO, Option.map_some]
theorem rnum_eq (p : List Int) (n : Nat) (hn : n ≤ 8) (hp : n ≤ p.length) (hu : ∀ x ∈ p, isU8 x) : octet_Reader_Num { p := p, bad := false } (n : Int) = some (((valB (p.take n) : Nat) : Int), { p := p.drop n, bad := false }) := by
  have e1 : decide ((n : Int) < (0:Int)) = false := by simp
  have e2 : decide (((p.length : Nat) : Int) < (n : Int)) = false := by simp; omega
  have hf : fits p (n : Int) (((p).length : Nat) : Int) = true := by simp [fits]; omega
  have hs : subs p (n : Int) (((p).length : Nat) : Int) = p.drop n := by simp [subs]
  simp only [octet_Reader_Num, e1, e2, cond_false, rnum_loop p false n hn hp hu, Option.bind_some, octet_Reader_Num_j0, gd_true hf, hs]
theorem rnum_bad (p : List Int) (n : Int) : octet_Reader_Num { p := p, bad := true } n = some (0, { p := p, bad := true }) := by
  simp only [octet_Reader_Num, cond_true, octet_Reader_spoil, Option.bind_some]
theorem rnum_short (p : List Int) (n : Nat) (hp : p.length < n) : octet_Reader_Num { p := p, bad := false } (n : Int) = some (0, { p := p, bad := true }) := by
  have e1 : decide ((n : Int) < (0:Int)) = false := by simp
  have e2 : decide (((p.length : Nat) : Int) < (n : Int)) = true := by simp; omega
  simp only [octet_Reader_Num, e1, e2, cond_false, cond_true, octet_Reader_spoil, Option.bind_some]
/-- Whatever is read: a number that fits, and a reader again. -/
theorem rnum_ok {r : octet_Reader} (h : rdOK r) (n : Nat) (hn : n ≤ 8) : ∃ v r', octet_Reader_Num r (n : Int) = some (v, r') ∧ 0 ≤ v ∧ v < ((256 ^ n : Nat) : Int) ∧ rdOK r' ∧ r'.p.length ≤ r.p.length := by
  obtain ⟨p, b⟩ := r
  obtain ⟨h1, h2⟩ := h
  simp only at h1 h2
  have hpos : (0:Int) < ((256 ^ n : Nat) : Int) := by
    have := Nat.pow_pos (n := n) (show 0 < 256 by decide)
    omega
  cases b with
  | true => exact ⟨0, _, rnum_bad p n, Int.le_refl _, hpos, ⟨h1, h2⟩, Nat.le_refl _⟩
  | false =>
    rcases Nat.lt_or_ge p.length n with hl | hl
    · exact ⟨0, _, rnum_short p n hl, Int.le_refl _, hpos, ⟨h1, h2⟩, Nat.le_refl _⟩
    · refine ⟨_, _, rnum_eq p n hn hl h2, Int.natCast_nonneg _, ?_, ⟨by simp only [List.length_drop]; omega, fun x hx => h2 x (List.mem_of_mem_drop hx)⟩, by simp only [List.length_drop]; omega⟩
      have := valB_lt (xs := p.take n) fun x hx => h2 x (List.mem_of_mem_take hx)
      rw [List.length_take, Nat.min_eq_left hl] at this
      omega
/-- What was written is read. -/
theorem rnum_leB (n v : Nat) (q : List Int) (hn : n ≤ 8) (hv : v < 256 ^ n) (hq : ∀ x ∈ q, isU8 x) : octet_Reader_Num { p := leB n v ++ q, bad := false } (n : Int) = some ((v : Int), { p := q, bad := false }) := by
  rw [rnum_eq _ n hn (by simp [leB_length]) (fun x hx => (List.mem_append.1 hx).elim (leB_u8 x) (hq x))]
  have e : (leB n v).length = n := leB_length n v
  have h1 : (leB n v ++ q).take n = leB n v := by rw [List.take_append_of_le_length (by omega), List.take_of_length_le (by omega)]
  have h2 : (leB n v ++ q).drop n = q := by rw [List.drop_append_of_le_length (by omega), List.drop_eq_nil_of_le (by omega), List.nil_append]
  rw [h1, h2, valB_leB_of hv]
end Go.Proofs.Ytbdhhmnncknhhaa
