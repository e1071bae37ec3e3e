/- How the document's answer lays bytes: the algebra again, without a writer. -/
import Derived.Test.YtbdhhmnncknhhaaLocksBytesCodF
set_option linter.unusedVariables false
set_option linter.unusedSimpArgs false
set_option maxRecDepth 100000
namespace Go.Proofs.Ytbdhhmnncknhhaa
open Go Go.V
/-- f lays these bytes behind what is there. -/
def RW (f : List Int → Option (List Int)) (b : List Int) : Prop := ∀ p : List Int, p.length + b.length ≤ 1000000000 → f p = some (p ++ b)
theorem RW.ret : RW (fun w => some w) [] := fun p _ => by simp
theorem RW.bind {f g : List Int → Option (List Int)} {b c : List Int} (hf : RW f b) (hg : RW g c) : RW (fun w => (f w).bind g) (b ++ c) := fun p hp => by
  simp only [List.length_append] at hp
  show (f p).bind g = _
  rw [hf p (by omega), Option.bind_some, hg (p ++ b) (by simp only [List.length_append]; omega), List.append_assoc]
theorem RW.last {f : List Int → Option (List Int)} {b : List Int} (hf : RW f b) : RW (fun w => (f w).bind fun t => some t) b := by
  have h := hf.bind RW.ret
  rwa [List.append_nil] at h
theorem RW.congr {f : List Int → Option (List Int)} {b c : List Int} (hf : RW f b) (e : b = c) : RW f c := e ▸ hf
theorem RW.of {f g : List Int → Option (List Int)} {b : List Int} (h : ∀ w, f w = g w) (hg : RW g b) : RW f b := fun p hp => by rw [h]; exact hg p hp
theorem RW.num {v n : Int} (m : Nat) (hm : m ≤ 8) (hn : n = m) (hv : 0 ≤ v) : RW (fun w => ref02_Num w v n) (leB m v.toNat) := fun p hp => fnum_int p hv hn hm (by omega)
theorem RW.n8 {v : Int} (hv : 0 ≤ v) : RW (fun w => ref02_Num w v (8:Int)) (leB 8 v.toNat) := RW.num 8 (by decide) rfl hv
theorem RW.n4 {v : Int} (hv : 0 ≤ v) : RW (fun w => ref02_Num w v (4:Int)) (leB 4 v.toNat) := RW.num 4 (by decide) rfl hv
theorem RW.u4 (v : Int) : RW (fun w => ref02_Num w (IntKind.u64.wrap v) (4:Int)) (leB 4 (un v)) := RW.n4 (un_nonneg v)
theorem RW.cnt (n : Nat) (h : n ≤ 1000000000) : RW (fun w => ref02_Num w (IntKind.u64.wrap (n : Int)) (4:Int)) (leB 4 n) := (RW.u4 (n : Int)).congr (by rw [un_len h])
theorem RW.bytes (l : List Int) (h : l.length ≤ 1000000000) : RW (fun w => ref02_Bytes w l) (byB l) := fun p hp => by
  simp only [byB, List.length_append, leB_length] at hp
  have hn : ref02_Num p (IntKind.u64.wrap (l.length : Int)) (4:Int) = some (p ++ leB 4 l.length) := RW.cnt l.length h p (by simp only [leB_length]; omega)
  simp only [ref02_Bytes, hn, Option.bind_some, gd_true (room_le (xs := p ++ leB 4 l.length) (ys := l) (by simp only [List.length_append, leB_length]; omega)), byB, List.append_assoc]
/-- A loop that lays one thing after the other. -/
theorem RW.loop0 {R : Type} {body : List Int × Int → Option ((List Int × Int) ⊕ R)} (out : List Int → R) (bs : List (List Int)) (hl : bs.length ≤ 1000000000)
    (hstep : ∀ i (h : i < bs.length) (p : List Int), p.length + bs[i].length ≤ 1000000000 → body (p, (i : Int)) = some (Sum.inl (p ++ bs[i], IntKind.i64.wrap ((i : Int) + (1:Int)))))
    (hend : ∀ w, body (w, (bs.length : Int)) = some (Sum.inr (out w))) (p : List Int) (hp : p.length + bs.flatten.length ≤ 1000000000) : loopO body (p, (0:Int)) = some (out (p ++ bs.flatten)) := by
  have h := loop_range (body := body) (fun i => (p ++ (bs.take i).flatten, (i : Int))) bs.length (out (p ++ bs.flatten)) ?_ ?_
  · simpa using h
  · intro i hi
    have e : IntKind.i64.wrap ((i : Int) + (1:Int)) = ((i + 1 : Nat) : Int) := by rw [wrap_i64] <;> omega
    have hb : (bs.take (i + 1)).flatten = (bs.take i).flatten ++ bs[i] := by rw [List.take_succ_eq_append_getElem hi, List.flatten_append, List.flatten_singleton]
    have hlen : (bs.take (i + 1)).flatten.length ≤ bs.flatten.length := by
      have := List.take_append_drop (i + 1) bs
      have h3 : bs.flatten = (bs.take (i + 1)).flatten ++ (bs.drop (i + 1)).flatten := by rw [← List.flatten_append, this]
      rw [h3, List.length_append]; omega
    rw [hstep i hi _ (by rw [hb] at hlen; simp only [List.length_append] at hlen ⊢; omega), e, hb, List.append_assoc]
  · rw [hend, List.take_length]
theorem RW.loop {R : Type} {body : List Int × Int → Option ((List Int × Int) ⊕ R)} (out : List Int → R) (bs : List (List Int)) (hl : bs.length ≤ 1000000000)
    (hstep : ∀ i (h : i < bs.length), ∃ F : List Int → Option (List Int), RW F bs[i] ∧ ∀ w, body (w, (i : Int)) = (F w).bind fun t => some (Sum.inl (t, IntKind.i64.wrap ((i : Int) + (1:Int)))))
    (hend : ∀ w, body (w, (bs.length : Int)) = some (Sum.inr (out w))) (p : List Int) (hp : p.length + bs.flatten.length ≤ 1000000000) : loopO body (p, (0:Int)) = some (out (p ++ bs.flatten)) := by
  refine RW.loop0 out bs hl (fun i hi p hp => ?_) hend p hp
  obtain ⟨F, h1, h2⟩ := hstep i hi
  rw [h2, h1 p hp, Option.bind_some]
theorem RW.loopW {body : List Int × Int → Option ((List Int × Int) ⊕ List Int)} (bs : List (List Int)) (hl : bs.length ≤ 1000000000)
    (hstep : ∀ i (h : i < bs.length), ∃ F : List Int → Option (List Int), RW F bs[i] ∧ ∀ w, body (w, (i : Int)) = (F w).bind fun t => some (Sum.inl (t, IntKind.i64.wrap ((i : Int) + (1:Int)))))
    (hend : ∀ w, body (w, (bs.length : Int)) = some (Sum.inr w)) : RW (fun w => loopO body (w, (0:Int))) bs.flatten := fun p hp => RW.loop id bs hl hstep hend p hp
end Go.Proofs.Ytbdhhmnncknhhaa
