/- Rows of cells: owned, readable, and what each operation does to them; generic over the program. -/
import Derived.Test.YtijcfglomdfglaaGvBase
set_option linter.unusedVariables false
set_option linter.unusedSimpArgs false
namespace Go.V
open Go

/-- The cells of a block that is owned. -/
def cells (b : Nat) (cs : List Value) : SP := exS fun E : TypeId => exS fun fr : Nat × Nat => andS (fun _ => ∀ o, o < cs.length → (decide (fr.1 ≤ o) && decide (o < fr.2)) = false) (fun _ _ _ h => h) (blk b (.cells cs.toArray E fr))
/-- A slice's own row: all of its block. -/
def row (sz : Nat) (v : Value) (css : List (List Value)) : SP := ⟨fun I h =>
  (∃ a, v = .slice a 0 0 ∧ css = []) ∨
  ∃ (b off cap : Nat) (pre junk : List Value), v = .slice (some ⟨b, off, none⟩) css.length cap ∧ css.length ≤ cap ∧ (∀ cs ∈ css, cs.length = sz) ∧ pre.length = off ∧ junk.length = (cap - css.length) * sz ∧ (cells b (pre ++ (css.flatten ++ junk))).p I h,
  fun hI h => h.imp id fun ⟨b, off, cap, pre, junk, a1, a2, a3, a4, a5, a6⟩ => ⟨b, off, cap, pre, junk, a1, a2, a3, a4, a5, (cells _ _).mono hI a6⟩⟩
/-- A slice that can be read off I: nobody writes there again. -/
def RoRow (I : HL) (sz : Nat) (v : Value) (css : List (List Value)) : Prop :=
  (∀ cs ∈ css, cs.length = sz) ∧ ∃ a cap, v = .slice a css.length cap ∧ css.length ≤ cap ∧
    (css ≠ [] → ∃ b off c E fr, a = some ⟨b, off, none⟩ ∧ I b = some (.cells c E fr) ∧ ∀ k x, css.flatten[k]? = some x → c[off + k]? = some x)
/-- A slice that can be read, whoever owns it, as long as R is. -/
def RdRow (R : SP) (I : HL) (sz : Nat) (v : Value) (css : List (List Value)) : Prop :=
  (∀ cs ∈ css, cs.length = sz) ∧ ∃ a cap, v = .slice a css.length cap ∧ css.length ≤ cap ∧
    (css ≠ [] → ∃ b off, a = some ⟨b, off, none⟩ ∧ ∀ w0 w I' L, I.le I' → St w0 w I' L R → ∀ k x, css.flatten[k]? = some x → w.cell? ⟨b, off + k, none⟩ = some x)

theorem cell_of_blk {w : World} {b o : Nat} {c : Array Value} {E : TypeId} {fr : Nat × Nat} (h : w.heap[b]? = some (.cells c E fr)) : w.cell? ⟨b, o, none⟩ = c[o]? := by
  simp [World.cell?, h]
section
variable {w0 w w' : World} {I I' : HL} {L L' : List SP} {R : SP} {A B : SP} {sz : Nat} {v x : Value} {css : List (List Value)} {cs : List Value} {b o : Nat}
theorem St.cell (h : St w0 w I (cells b cs :: L) R) (ho : cs[o]? = some x) : w.cell? ⟨b, o, none⟩ = some x := by
  obtain ⟨E, h⟩ := h.ex
  obtain ⟨fr, h⟩ := h.ex
  rw [cell_of_blk h.and.2.blk_at]
  simpa using ho
theorem St.unfrozen (h : St w0 w I (cells b cs :: L) R) (ho : o < cs.length) : w.frozen? ⟨b, o, none⟩ = false := by
  obtain ⟨E, h⟩ := h.ex
  obtain ⟨fr, h⟩ := h.ex
  obtain ⟨hf, h⟩ := h.and
  simp only [World.frozen?, h.blk_at]
  exact hf o ho
theorem setCell_heap (w : World) (b o : Nat) (v : Value) {c : Array Value} {E : TypeId} {fr : Nat × Nat} (h : w.heap[b]? = some (.cells c E fr)) :
    (w.setCell ⟨b, o, none⟩ v).heap[b]? = some (.cells (c.setIfInBounds o v) E fr) := by
  simp [World.setCell, Array.getElem?_modify, h]
theorem setCell_other (w : World) (b o i : Nat) (v : Value) (h : i ≠ b) : (w.setCell ⟨b, o, none⟩ v).heap[i]? = w.heap[i]? := by
  simp only [World.setCell, Array.getElem?_modify]
  rw [if_neg (by omega)]
theorem setCell_env (w : World) (a : Addr) (v : Value) : Env w (w.setCell a v) := ⟨rfl, rfl, rfl, by simp [World.setCell]⟩
theorem St.set (h : St w0 w I (cells b cs :: L) R) (o : Nat) (x : Value) : St w0 (w.setCell ⟨b, o, none⟩ x) I (cells b (cs.set o x) :: L) R := by
  obtain ⟨E, h⟩ := h.ex
  obtain ⟨fr, h⟩ := h.ex
  obtain ⟨hf, h⟩ := h.and
  have h1 := h.put_blk (o' := .cells (cs.set o x).toArray E fr) (setCell_env w ⟨b, o, none⟩ x)
    (by rw [setCell_heap w b o x h.blk_at]; simp) (fun i hi _ => setCell_other w b o i x hi)
  exact h1.impl fun k hk => ⟨E, fr, by simpa using hf, hk⟩
theorem St.new (h : St w0 w I L R) (cs : List Value) (E : TypeId) : St w0 (w.alloc (.cells cs.toArray E)) I (cells w.heap.size cs :: L) R :=
  (h.push (w' := w.alloc (.cells cs.toArray E)) (.cells cs.toArray E) rfl ⟨rfl, rfl, rfl⟩).impl fun k hk => ⟨E, (0, 0), by simp, hk⟩

theorem flat_get {css : List (List Value)} {sz : Nat} (hl : ∀ cs ∈ css, cs.length = sz) : ∀ {i o : Nat} {cs : List Value} {x : Value}, css[i]? = some cs → cs[o]? = some x → css.flatten[i * sz + o]? = some x := by
  induction css with
  | nil => intro i o cs x h; simp at h
  | cons c css ih =>
    intro i o cs x hi ho
    have hc : c.length = sz := hl c (by simp)
    cases i with
    | zero =>
      simp at hi; subst hi
      have : o < c.length := (List.getElem?_eq_some_iff.1 ho).1
      simp only [List.flatten_cons, Nat.zero_mul, Nat.zero_add]
      rw [List.getElem?_append_left this]; exact ho
    | succ i =>
      simp at hi
      simp only [List.flatten_cons]
      rw [List.getElem?_append_right (by rw [hc, Nat.succ_mul]; omega)]
      have e : (i + 1) * sz + o - c.length = i * sz + o := by rw [hc, Nat.succ_mul]; omega
      rw [e]
      exact ih (fun cs h => hl cs (by simp [h])) hi ho
theorem flat_len {css : List (List Value)} {sz : Nat} (hl : ∀ cs ∈ css, cs.length = sz) : css.flatten.length = css.length * sz := by
  induction css with
  | nil => simp
  | cons c css ih =>
    simp only [List.flatten_cons, List.length_append, List.length_cons, hl c (by simp), ih fun cs h => hl cs (by simp [h]), Nat.succ_mul]
    omega
/-! ### What a slice value is -/
def sBlk : Value → Nat | .slice (some a) _ _ => a.block | _ => 0
def sOff : Value → Nat | .slice (some a) _ _ => a.off | _ => 0
/-- The address of a slice's k-th cell. -/
def eAddr (v : Value) (k : Nat) : Addr := ⟨sBlk v, sOff v + k, none⟩
/-- A slice of n elements. -/
def SliceV (v : Value) (n : Nat) : Prop := ∃ a cap, v = .slice a n cap ∧ n ≤ cap ∧ (n ≠ 0 → ∃ b off, a = some ⟨b, off, none⟩)
theorem SliceV.nil : SliceV (.slice none 0 0) 0 := ⟨none, 0, rfl, Nat.le_refl _, fun h => absurd rfl h⟩
theorem RdRow.sliceV (h : RdRow R I sz v css) : SliceV v css.length := by
  obtain ⟨h1, a, cap, rfl, h2, h3⟩ := h
  exact ⟨a, cap, rfl, h2, fun hn => by
    obtain ⟨b, off, rfl, _⟩ := h3 (fun e => hn (by simp [e]))
    exact ⟨b, off, rfl⟩⟩
theorem RdRow.mono (h : RdRow R I sz v css) (hI : I.le I') : RdRow R I' sz v css := by
  obtain ⟨h1, a, cap, h2, h3, h4⟩ := h
  refine ⟨h1, a, cap, h2, h3, fun hn => ?_⟩
  obtain ⟨b, off, e, h5⟩ := h4 hn
  exact ⟨b, off, e, fun w0 w I2 L hle hst => h5 w0 w I2 L (hI.trans hle) hst⟩
theorem RoRow.mono (h : RoRow I sz v css) (hI : I.le I') : RoRow I' sz v css := by
  obtain ⟨h1, a, cap, h2, h3, h4⟩ := h
  refine ⟨h1, a, cap, h2, h3, fun hn => ?_⟩
  obtain ⟨b, off, c, E, fr, e, h5, h6⟩ := h4 hn
  exact ⟨b, off, c, E, fr, e, hI _ _ h5, h6⟩
theorem RoRow.rd (h : RoRow I sz v css) (R : SP) : RdRow R I sz v css := by
  obtain ⟨h1, a, cap, h2, h3, h4⟩ := h
  refine ⟨h1, a, cap, h2, h3, fun hn => ?_⟩
  obtain ⟨b, off, c, E, fr, e, h5, h6⟩ := h4 hn
  refine ⟨b, off, e, fun w0 w I2 L hle hst k x hk => ?_⟩
  rw [cell_of_blk (hst.imm _ _ (hle _ _ h5))]
  exact h6 k x hk
theorem RdRow.weak (h : RdRow R I sz v css) (A : SP) : RdRow (star A R) I sz v css := by
  obtain ⟨h1, a, cap, h2, h3, h4⟩ := h
  refine ⟨h1, a, cap, h2, h3, fun hn => ?_⟩
  obtain ⟨b, off, e, h5⟩ := h4 hn
  exact ⟨b, off, e, fun w0 w I2 L hle hst => h5 w0 w I2 (L ++ [A]) hle (St.unsplit (L := [A]) hst)⟩
theorem RdRow.weakL (h : RdRow R I sz v css) : ∀ (L : List SP), RdRow (big L R) I sz v css
  | [] => h
  | A :: L => (h.weakL L).weak A
theorem row_form {h : HL} (hr : (row sz v css).p I h) : (∀ cs ∈ css, cs.length = sz) ∧ SliceV v css.length := by
  rcases hr with ⟨a, rfl, rfl⟩ | ⟨b, off, cap, pre, junk, rfl, h1, h2, h3, h4, h5⟩
  · exact ⟨by simp, a, 0, rfl, Nat.le_refl _, fun h => absurd rfl h⟩
  · exact ⟨h2, _, cap, rfl, h1, fun _ => ⟨b, off, rfl⟩⟩
theorem St.row_form (h : St w0 w I (row sz v css :: L) R) : (∀ cs ∈ css, cs.length = sz) ∧ SliceV v css.length := by
  obtain ⟨e, i, k, ⟨h1, h2, hd, he, pa, pb⟩, hs, hj⟩ := h
  exact V.row_form pa
/-- An owned row, opened. -/
theorem St.row_open (h : St w0 w I (row sz v css :: L) R) (hne : css ≠ []) : ∃ (b off cap : Nat) (pre junk : List Value), v = .slice (some ⟨b, off, none⟩) css.length cap ∧ css.length ≤ cap ∧ (∀ cs ∈ css, cs.length = sz) ∧ pre.length = off ∧ junk.length = (cap - css.length) * sz ∧ St w0 w I (cells b (pre ++ (css.flatten ++ junk)) :: L) R := by
  obtain ⟨e, i, k, ⟨h1, h2, hd, he, pa, pb⟩, hs, hj⟩ := h
  rcases pa with ⟨a, rfl, rfl⟩ | ⟨b, off, cap, pre, junk, rfl, g1, g2, g3, g4, g5⟩
  · exact absurd rfl hne
  · exact ⟨b, off, cap, pre, junk, rfl, g1, g2, g3, g4, e, i, k, ⟨h1, h2, hd, he, g5, pb⟩, hs, hj⟩
theorem St.row_mk {b off cap : Nat} {pre junk : List Value} (h : St w0 w I (cells b (pre ++ (css.flatten ++ junk)) :: L) R) (h1 : css.length ≤ cap) (h2 : ∀ cs ∈ css, cs.length = sz) (h3 : pre.length = off) (h4 : junk.length = (cap - css.length) * sz) :
    St w0 w I (row sz (.slice (some ⟨b, off, none⟩) css.length cap) css :: L) R :=
  h.impl fun k hk => .inr ⟨b, off, cap, pre, junk, rfl, h1, h2, h3, h4, hk⟩
theorem St.row_nil (h : St w0 w I L R) : St w0 w I (row sz (.slice none 0 0) [] :: L) R := h.addEmp.impl fun _ _ => .inl ⟨_, rfl, rfl⟩
/-- A cell of an owned row. -/
theorem St.row_cell (h : St w0 w I (row sz v css :: L) R) {i o : Nat} (hi : css[i]? = some cs) (ho : cs[o]? = some x) : w.cell? (eAddr v (i * sz + o)) = some x := by
  have hne : css ≠ [] := fun e => by simp [e] at hi
  obtain ⟨b, off, cap, pre, junk, rfl, h1, h2, rfl, h4, h5⟩ := h.row_open hne
  have hf := flat_get h2 hi ho
  refine h5.cell (o := pre.length + (i * sz + o)) ?_
  rw [List.getElem?_append_right (by omega), Nat.add_sub_cancel_left, List.getElem?_append_left (List.getElem?_eq_some_iff.1 hf).1]
  exact hf
theorem RdRow.cell (h : RdRow R I sz v css) (hI : I.le I') (hst : St w0 w I' L R) {i o : Nat} (hi : css[i]? = some cs) (ho : cs[o]? = some x) : w.cell? (eAddr v (i * sz + o)) = some x := by
  have hne : css ≠ [] := fun e => by simp [e] at hi
  obtain ⟨h1, a, cap, rfl, h2, h3⟩ := h
  obtain ⟨b, off, rfl, h4⟩ := h3 hne
  exact h4 w0 w I' L hI hst _ _ (flat_get h1 hi ho)
/-- An owned row is readable as long as it is in the frame. -/
theorem RdRow.of_row (n : Nat) (h : St w0 w I L R) (hL : L[n]? = some (row sz v css)) : RdRow (big L R) I sz v css := by
  have hp := h.pull n hL rfl
  obtain ⟨h1, a, cap, rfl, h2, h3⟩ := hp.row_form
  refine ⟨h1, a, cap, rfl, h2, fun hne => ?_⟩
  obtain ⟨b, off, rfl⟩ := h3 (fun e => hne (List.eq_nil_of_length_eq_zero e))
  refine ⟨b, off, rfl, fun w0' w' I' L' hle hst k x hk => ?_⟩
  have h4 : St w0' w' I' (L ++ L') R := (hst.unsplit).comm
  have hlt : n < L.length := by
    rcases Nat.lt_or_ge n L.length with h | h
    · exact h
    · rw [List.getElem?_eq_none h] at hL; cases hL
  have h5 := (h4.pull n (by rw [List.getElem?_append_left hlt]; exact hL) rfl)
  obtain ⟨b', off', cap', pre, junk, e1, g1, g2, rfl, g4, g5⟩ := h5.row_open hne
  simp only [Value.slice.injEq, Option.some.injEq, Addr.mk.injEq, and_true, true_and] at e1
  obtain ⟨⟨rfl, rfl⟩, rfl⟩ := e1
  refine g5.cell ?_
  rw [List.getElem?_append_right (by omega), Nat.add_sub_cancel_left, List.getElem?_append_left (List.getElem?_eq_some_iff.1 hk).1]
  exact hk
/-- A row that is fixed is never written again. -/
theorem St.row_fix (h : St w0 w I (row sz v css :: L) R) : ∃ I' : HL, I.le I' ∧ RoRow I' sz v css ∧ St w0 w I' L R := by
  obtain ⟨h1, a, cap, rfl, h2, h3⟩ := h.row_form
  by_cases hne : css = []
  · exact ⟨I, HL.le.refl _, ⟨h1, a, cap, rfl, h2, fun h => absurd hne h⟩, h.sub⟩
  · obtain ⟨b, off, cap', pre, junk, e1, g1, g2, rfl, g4, g5⟩ := h.row_open hne
    simp only [Value.slice.injEq, true_and] at e1
    obtain ⟨rfl, rfl⟩ := e1
    obtain ⟨E, g5⟩ := g5.ex
    obtain ⟨fr, g5⟩ := g5.ex
    obtain ⟨I', hle, hI', hst⟩ := g5.and.2.fixed
    refine ⟨I', hle, ⟨h1, _, cap, rfl, h2, fun _ => ⟨b, pre.length, _, E, fr, rfl, hI', fun k x hk => ?_⟩⟩, hst⟩
    simp only [List.getElem?_toArray]
    rw [List.getElem?_append_right (by omega), Nat.add_sub_cancel_left, List.getElem?_append_left (List.getElem?_eq_some_iff.1 hk).1]
    exact hk
end
end Go.V
