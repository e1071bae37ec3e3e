/- What lays bytes: a small algebra of writers. -/
import Derived.Test.YtbdhhmnncknhhaaLocksKeepsOctW
import Derived.Test.YtbdhhmnncknhhaaLocksKeepsFltR
set_option linter.unusedVariables false
set_option linter.unusedSimpArgs false
set_option maxRecDepth 100000
namespace Go.Proofs.Ytbdhhmnncknhhaa
open Go Go.V
/-- f lays these bytes behind what is there. -/
def WR (f : octet_Writer → Option octet_Writer) (b : List Int) : Prop := ∀ p : List Int, p.length + b.length ≤ 1000000000 → f { p := p } = some { p := p ++ b }
theorem WR.ret : WR (fun w => some w) [] := fun p _ => by simp
theorem WR.bind {f g : octet_Writer → Option octet_Writer} {b c : List Int} (hf : WR f b) (hg : WR g c) : WR (fun w => (f w).bind g) (b ++ c) := fun p hp => by
  simp only [List.length_append] at hp
  show (f { p := p }).bind g = _
  rw [hf p (by omega), Option.bind_some, hg (p ++ b) (by simp only [List.length_append]; omega), List.append_assoc]
theorem WR.last {f : octet_Writer → Option octet_Writer} {b : List Int} (hf : WR f b) : WR (fun w => (f w).bind fun t => some t) b := by
  have h := hf.bind WR.ret
  rwa [List.append_nil] at h
theorem WR.congr {f : octet_Writer → Option octet_Writer} {b c : List Int} (hf : WR f b) (e : b = c) : WR f c := e ▸ hf
theorem WR.of {f g : octet_Writer → Option octet_Writer} {b : List Int} (h : ∀ w, f w = g w) (hg : WR g b) : WR f b := fun p hp => by rw [h]; exact hg p hp
theorem WR.num {v n : Int} (m : Nat) (hm : m ≤ 8) (hn : n = m) (hv : 0 ≤ v) : WR (fun w => octet_Writer_Num w v n) (leB m v.toNat) := fun p hp => wnum_int p hv hn hm (by omega)
theorem WR.n8 {v : Int} (hv : 0 ≤ v) : WR (fun w => octet_Writer_Num w v (8:Int)) (leB 8 v.toNat) := WR.num 8 (by decide) rfl hv
theorem WR.n4 {v : Int} (hv : 0 ≤ v) : WR (fun w => octet_Writer_Num w v (4:Int)) (leB 4 v.toNat) := WR.num 4 (by decide) rfl hv
/-- A number of any sign, as an unsigned one. -/
def un (v : Int) : Nat := (IntKind.u64.wrap v).toNat
theorem un_nonneg (v : Int) : 0 ≤ IntKind.u64.wrap v := by rw [wrap_u64_eq]; omega
theorem un_of {v : Int} (h0 : 0 ≤ v) (h : v < 18446744073709551616) : un v = v.toNat := by unfold un; rw [wrap_u64 h0 h]
theorem un_len {n : Nat} (h : n ≤ 1000000000) : un (n : Int) = n := by rw [un_of] <;> omega
theorem WR.u4 (v : Int) : WR (fun w => octet_Writer_Num w (IntKind.u64.wrap v) (4:Int)) (leB 4 (un v)) := WR.n4 (un_nonneg v)
theorem WR.cnt (n : Nat) (h : n ≤ 1000000000) : WR (fun w => octet_Writer_Num w (IntKind.u64.wrap (n : Int)) (4:Int)) (leB 4 n) := (WR.u4 (n : Int)).congr (by rw [un_len h])
/-- Bytes behind their number. -/
def byB (l : List Int) : List Int := leB 4 l.length ++ l
theorem WR.lay (l : List Int) : WR (fun w => octet_Writer_lay w l) l := fun p hp => by
  simp only [octet_Writer_lay, gd_true (room_le (xs := p) (ys := l) (by omega))]
theorem WR.bytes (l : List Int) (h : l.length ≤ 1000000000) : WR (fun w => octet_Writer_Bytes w l) (byB l) := (WR.cnt l.length h).bind (WR.lay l).last
/-- A loop that lays one thing after the other. -/
theorem WR.loop0 {R : Type} {body : octet_Writer × Int → Option ((octet_Writer × Int) ⊕ R)} (out : octet_Writer → R) (bs : List (List Int)) (hl : bs.length ≤ 1000000000)
    (hstep : ∀ i (h : i < bs.length) (p : List Int), p.length + bs[i].length ≤ 1000000000 → body ({ p := p }, (i : Int)) = some (Sum.inl (({ p := p ++ bs[i] } : octet_Writer), IntKind.i64.wrap ((i : Int) + (1:Int)))))
    (hend : ∀ w, body (w, (bs.length : Int)) = some (Sum.inr (out w))) (p : List Int) (hp : p.length + bs.flatten.length ≤ 1000000000) : loopO body ({ p := p }, (0:Int)) = some (out { p := p ++ bs.flatten }) := by
  have h := loop_range (body := body) (fun i => (({ p := p ++ (bs.take i).flatten } : octet_Writer), (i : Int))) bs.length (out { p := p ++ bs.flatten }) ?_ ?_
  · simpa using h
  · intro i hi
    have e : IntKind.i64.wrap ((i : Int) + (1:Int)) = ((i + 1 : Nat) : Int) := by rw [wrap_i64] <;> omega
    have hb : (bs.take (i + 1)).flatten = (bs.take i).flatten ++ bs[i] := by rw [List.take_succ_eq_append_getElem hi, List.flatten_append, List.flatten_singleton]
    have hlen : (bs.take (i + 1)).flatten.length ≤ bs.flatten.length := by
      have := List.take_append_drop (i + 1) bs
      have h3 : bs.flatten = (bs.take (i + 1)).flatten ++ (bs.drop (i + 1)).flatten := by rw [← List.flatten_append, this]
      rw [h3, List.length_append]; omega
    rw [hstep i hi _ (by rw [hb] at hlen; simp only [List.length_append] at hlen ⊢; omega), e, hb, List.append_assoc]
  · rw [hend, List.take_length]
theorem WR.loop {R : Type} {body : octet_Writer × Int → Option ((octet_Writer × Int) ⊕ R)} (out : octet_Writer → R) (bs : List (List Int)) (hl : bs.length ≤ 1000000000)
    (hstep : ∀ i (h : i < bs.length), ∃ F : octet_Writer → Option octet_Writer, WR F bs[i] ∧ ∀ w, body (w, (i : Int)) = (F w).bind fun t => some (Sum.inl (t, IntKind.i64.wrap ((i : Int) + (1:Int)))))
    (hend : ∀ w, body (w, (bs.length : Int)) = some (Sum.inr (out w))) (p : List Int) (hp : p.length + bs.flatten.length ≤ 1000000000) : loopO body ({ p := p }, (0:Int)) = some (out { p := p ++ bs.flatten }) := by
  refine WR.loop0 out bs hl (fun i hi p hp => ?_) hend p hp
  obtain ⟨F, h1, h2⟩ := hstep i hi
  rw [h2, h1 p hp, Option.bind_some]
end Go.Proofs.Ytbdhhmnncknhhaa
