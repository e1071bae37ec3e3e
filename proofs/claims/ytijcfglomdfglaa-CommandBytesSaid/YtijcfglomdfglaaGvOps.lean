/- What each kind of operation comes to, under the heap logic; generic over the program. -/
import Derived.Test.YtijcfglomdfglaaGvHeap
import Derived.Laws.Cells
set_option linter.unusedVariables false
set_option linter.unusedSimpArgs false
namespace Go.V
open Go

section pure
variable {P : Program} {ρ : Operand → Value} {w w' : World} {d : Option Tmp} {ty : TypeId} {ps : String} {af : Array Edge} {g : Option (Nat × Bool)}

theorem x_val {s : Sem Value} {v : Value} (h : s.run P w = .ok v w') : (s >>= fun a => (pure (Next.value a) : Sem Next)).run P w = .ok (.value v) w' := by
  rw [Sem.run_bind, h]; rfl
theorem x_unit {s : Sem Unit} (h : s.run P w = .ok () w') : (s >>= fun _ => (pure Next.skip : Sem Next)).run P w = .ok .skip w' := by
  rw [Sem.run_bind, h]; rfl

theorem add_none (b o k : Nat) : (⟨b, o, none⟩ : Addr).add k = ⟨b, o + k, none⟩ := by
  unfold Addr.add; split
  · rename_i h; subst h; rfl
  · rfl
theorem eAddr_add (V : Value) (k j : Nat) : (eAddr V k).add j = eAddr V (k + j) := by
  unfold eAddr; rw [add_none, Nat.add_assoc]

theorem x_index {t E : TypeId} {x ix : Operand} {k : IntKind} {i : Int} {n sz : Nat} {V : Value} (hx : ρ x = V) (hi : ρ ix = .int k i) (ht : P.underlying t = some (.slice E))
    (hs : ∀ w, (sizeOf E).run P w = .ok sz w) (hv : SliceV V n) (h0 : 0 ≤ i) (h1 : i < n) :
    (execOp ρ ⟨d, .indexAddr t x ix, ty, ps, af, g⟩).run P w = .ok (.value (.pointer (some (eAddr V (i.toNat * sz + 0))))) w := by
  obtain ⟨a, cap, rfl, h2, h3⟩ := hv
  obtain ⟨b, off, rfl⟩ := h3 (by omega)
  refine x_val ?_
  rw [hx, hi]
  have hu : ∀ w : World, (underlying t).run P w = .ok (.slice E) w := fun w => by simp [underlying, ht]
  simp only [Instr.indexAt, asIntOf, Sem.run_bind, Sem.run_pure, Result.andThen, hu, hs, h0, h1, and_self, if_true, add_none, eAddr, sBlk, sOff, Nat.add_zero]
theorem x_field {S : TypeId} {x : Operand} {f b o o' n : Nat} {fs : Array Field} {fd : Field} (hx : ρ x = .pointer (some ⟨b, o, none⟩)) (hS : P.underlying S = some (.struct fs))
    (hf : fs[f]? = some fd) (hn : ∀ w, (sizeOf fd.type).run P w = .ok (n + 1) w) (ho : o + fd.offset = o') :
    (execOp ρ ⟨d, .fieldAddr S x f, ty, ps, af, g⟩).run P w = .ok (.value (.pointer (some ⟨b, o', none⟩))) w := by
  refine x_val ?_
  rw [hx]
  have hu : ∀ w : World, (underlying S).run P w = .ok (.struct fs) w := fun w => by simp [underlying, hS]
  simp only [Instr.fieldAt, Sem.run_bind, Sem.run_pure, Result.andThen, hu, hf, Instr.sureAddr, fieldPlace, hn, Nat.succ_ne_zero, if_false, add_none, ho]
theorem x_field_e {S : TypeId} {x : Operand} {f k o o' n : Nat} {V : Value} {fs : Array Field} {fd : Field} (hx : ρ x = .pointer (some (eAddr V (k + o)))) (hS : P.underlying S = some (.struct fs))
    (hf : fs[f]? = some fd) (hn : ∀ w, (sizeOf fd.type).run P w = .ok (n + 1) w) (ho : o + fd.offset = o') :
    (execOp ρ ⟨d, .fieldAddr S x f, ty, ps, af, g⟩).run P w = .ok (.value (.pointer (some (eAddr V (k + o'))))) w := by
  refine x_val ?_
  rw [hx]
  have hu : ∀ w : World, (underlying S).run P w = .ok (.struct fs) w := fun w => by simp [underlying, hS]
  simp only [Instr.fieldAt, Sem.run_bind, Sem.run_pure, Result.andThen, hu, hf, Instr.sureAddr, fieldPlace, hn, Nat.succ_ne_zero, if_false, eAddr_add, Nat.add_assoc, ho]
/-- An array's element: its address. -/
theorem x_index_arr {t E : TypeId} {x ix : Operand} {k : IntKind} {i : Int} {N b o sz : Nat} (hx : ρ x = .pointer (some ⟨b, o, none⟩)) (hi : ρ ix = .int k i) (ht : P.underlying t = some (.array N E))
    (hs : ∀ w, (sizeOf E).run P w = .ok sz w) (h0 : 0 ≤ i) (h1 : i < N) :
    (execOp ρ ⟨d, .indexAddr t x ix, ty, ps, af, g⟩).run P w = .ok (.value (.pointer (some ⟨b, o + i.toNat * sz, none⟩))) w := by
  refine x_val ?_
  rw [hx, hi]
  have hu : ∀ w : World, (underlying t).run P w = .ok (.array N E) w := fun w => by simp [underlying, ht]
  simp only [Instr.indexAt, asIntOf, Sem.run_bind, Sem.run_pure, Result.andThen, hu, hs, h0, h1, and_self, if_true, add_none, Instr.sureAddr]
theorem x_load {t : TypeId} {x : Operand} {a : Addr} {v : Value} (hx : ρ x = .pointer (some a)) (hA : ∀ w, (isAgg t).run P w = .ok false w) (hc : w.cell? a = some v) :
    (execOp ρ ⟨d, .load t x, ty, ps, af, g⟩).run P w = .ok (.value v) w := by
  refine x_val ?_
  rw [hx]
  simp only [Instr.loadAt, Instr.sureAddr, loadVar, Sem.run_bind, Sem.run_pure, Result.andThen, hA, Bool.false_eq_true, if_false, run_load, hc, Sem.run_ite]
theorem x_loadN {t : TypeId} {x : Operand} {a : Addr} {cs : List Value} (hx : ρ x = .pointer (some a)) (hA : ∀ w, (isAgg t).run P w = .ok true w) (hs : ∀ w, (sizeOf t).run P w = .ok cs.length w)
    (hc : ∀ j v, cs[j]? = some v → w.cell? (a.add j) = some v) : (execOp ρ ⟨d, .load t x, ty, ps, af, g⟩).run P w = .ok (.value (.agg cs.toArray)) w := by
  refine x_val ?_
  rw [hx]
  simp only [Instr.loadAt, Instr.sureAddr, loadVar, Sem.run_bind, Sem.run_pure, Result.andThen, hA, if_true, Sem.run_ite, hs, run_loadCells_list w a cs hc]
theorem x_len {t E : TypeId} {x : Operand} {V : Value} {n : Nat} (hx : ρ x = V) (ht : P.underlying t = some (.slice E)) (hv : SliceV V n) :
    (execOp ρ ⟨d, .call { callee := .builtin .len, args := #[x], argTypes := #[t] }, ty, ps, af, g⟩).run P w = .ok (.value (.int .i64 n)) w := by
  obtain ⟨a, cap, rfl, h2, h3⟩ := hv
  have hu : ∀ w : World, (underlying t).run P w = .ok (.slice E) w := fun w => by simp [underlying, ht]
  simp [execOp, resolve, invoke, builtin, Builtin.len_, hu, hx, goInt, Result.andThen]
theorem x_call {f : FuncId} {args : List Operand} {ats : Array TypeId} {vs : List Value} (hc : ∀ (args : Array Value) (w : World), (callFunc f args).run P w = .ok (.enter f args) w) (hf : ρ (.func f) = .func (.func f) #[] #[]) (ha : args.map ρ = vs) :
    (execOp ρ ⟨d, .call { callee := .value (.func f), args := args.toArray, argTypes := ats }, ty, ps, af, g⟩).run P w = .ok (.enter f vs.toArray) w := by
  simp [execOp, resolve, Deferred.ofValue, invoke, hf, hc, ha]
end pure

section st
variable {P : Program} {w0 w w' : World} {I I' : HL} {L L' : List SP} {R : SP} {sz k b o : Nat} {v x V : Value} {css nss : List (List Value)} {cs cs' vs : List Value} {t : TypeId}

def setMany : List Value → Nat → List Value → List Value
  | cs, _, [] => cs
  | cs, o, v :: vs => setMany (cs.set o v) (o + 1) vs
theorem St.boxCell (hst : St w0 w I L R) (k : Nat) (hL : L[k]? = some (cells b cs)) (ho : cs[o]? = some x) : w.cell? ⟨b, o, none⟩ = some x := (hst.pull k hL rfl).cell ho
theorem St.boxCells (hst : St w0 w I L R) (k : Nat) (hL : L[k]? = some (cells b cs)) (o : Nat) (hv : (cs.drop o).take vs.length = vs) : ∀ j y, vs[j]? = some y → w.cell? ((⟨b, o, none⟩ : Addr).add j) = some y := by
  intro j y hj
  rw [add_none]
  refine hst.boxCell k hL ?_
  rw [← hv, List.getElem?_take] at hj
  split at hj
  · simpa using hj
  · cases hj
theorem RdRow.cells (hst : St w0 w I' L R) (h : RdRow R I sz V css) (hI : I.le I') {i : Nat} (hi : css[i]? = some cs) (o : Nat) (hv : (cs.drop o).take vs.length = vs) : ∀ j y, vs[j]? = some y → w.cell? ((eAddr V (i * sz + o)).add j) = some y := by
  intro j y hj
  rw [eAddr_add, Nat.add_assoc]
  refine h.cell hI hst hi ?_
  rw [← hv, List.getElem?_take] at hj
  split at hj
  · simpa using hj
  · cases hj

theorem run_store1 {a : Addr} (hv : x.oneCell' = true) (hc : ∃ y, w.cell? a = some y) (hf : w.frozen? a = false) (m : Mode) : (store a x m).run P w = .ok () (w.setCell a x) := by
  obtain ⟨y, hy⟩ := hc
  rw [run_store P w a x m hv, hy]
  simp [hf]
/-- A store into a box. -/
theorem St.boxStores (vs : List Value) : ∀ {w : World} {cs : List Value} (o i : Nat), St w0 w I (cells b cs :: L) R → o + i + vs.length ≤ cs.length → (∀ v ∈ vs, v.oneCell' = true) →
    ∃ w', (storeCells ⟨b, o, none⟩ vs i).run P w = .ok () w' ∧ St w0 w' I (cells b (setMany cs (o + i) vs) :: L) R := by
  induction vs with
  | nil => intro w cs o i h _ _; exact ⟨w, rfl, h⟩
  | cons v vs ih =>
    intro w cs o i h hl hv
    simp at hl
    have h1 := h.set (o + i) v
    obtain ⟨w', hr, h2⟩ := ih o (i + 1) h1 (by simp; omega) (fun v h => hv v (by simp [h]))
    refine ⟨w', ?_, h2⟩
    simp only [storeCells, Sem.run_bind, add_none]
    rw [run_store1 (hv v (by simp)) ⟨_, h.cell (List.getElem?_eq_getElem (by omega))⟩ (h.unfrozen (by omega))]
    exact hr
theorem St.boxStore (hst : St w0 w I (cells b cs :: L) R) (o : Nat) (x : Value) (hs : ∀ w, (sizeOf t).run P w = .ok x.cells.size w)
    (hl : o + x.cells.toList.length ≤ cs.length) (hv : ∀ v ∈ x.cells.toList, v.oneCell' = true) (hcs : setMany cs o x.cells.toList = cs') :
    ∃ w', (Instr.storeAt t (.pointer (some ⟨b, o, none⟩)) x).run P w = .ok () w' ∧ St w0 w' I (Go.V.cells b cs' :: L) R := by
  obtain ⟨w', hr, h⟩ := hst.boxStores (P := P) x.cells.toList o 0 (by simpa using hl) hv
  refine ⟨w', ?_, by rw [← hcs]; simpa using h⟩
  simp only [Instr.storeAt, Instr.sureAddr, storeVar, Sem.run_bind, Sem.run_pure, Result.andThen, hs, ne_eq, not_true, if_false, hr]
theorem St.pull1 {A0 A1 : SP} (h : St w0 w I (A0 :: A1 :: L) R) : St w0 w I (A1 :: A0 :: L) R := h.pull 1 rfl rfl
theorem St.pull2 {A0 A1 A2 : SP} (h : St w0 w I (A0 :: A1 :: A2 :: L) R) : St w0 w I (A2 :: A0 :: A1 :: L) R := h.pull 2 rfl rfl
theorem St.pull3 {A0 A1 A2 A3 : SP} (h : St w0 w I (A0 :: A1 :: A2 :: A3 :: L) R) : St w0 w I (A3 :: A0 :: A1 :: A2 :: L) R := h.pull 3 rfl rfl
theorem St.pull4 {A0 A1 A2 A3 A4 : SP} (h : St w0 w I (A0 :: A1 :: A2 :: A3 :: A4 :: L) R) : St w0 w I (A4 :: A0 :: A1 :: A2 :: A3 :: L) R := h.pull 4 rfl rfl
theorem St.pull5 {A0 A1 A2 A3 A4 A5 : SP} (h : St w0 w I (A0 :: A1 :: A2 :: A3 :: A4 :: A5 :: L) R) : St w0 w I (A5 :: A0 :: A1 :: A2 :: A3 :: A4 :: L) R := h.pull 5 rfl rfl
theorem St.pull6 {A0 A1 A2 A3 A4 A5 A6 : SP} (h : St w0 w I (A0 :: A1 :: A2 :: A3 :: A4 :: A5 :: A6 :: L) R) : St w0 w I (A6 :: A0 :: A1 :: A2 :: A3 :: A4 :: A5 :: L) R := h.pull 6 rfl rfl
theorem St.pull7 {A0 A1 A2 A3 A4 A5 A6 A7 : SP} (h : St w0 w I (A0 :: A1 :: A2 :: A3 :: A4 :: A5 :: A6 :: A7 :: L) R) : St w0 w I (A7 :: A0 :: A1 :: A2 :: A3 :: A4 :: A5 :: A6 :: L) R := h.pull 7 rfl rfl
theorem St.pull8 {A0 A1 A2 A3 A4 A5 A6 A7 A8 : SP} (h : St w0 w I (A0 :: A1 :: A2 :: A3 :: A4 :: A5 :: A6 :: A7 :: A8 :: L) R) : St w0 w I (A8 :: A0 :: A1 :: A2 :: A3 :: A4 :: A5 :: A6 :: A7 :: L) R := h.pull 8 rfl rfl
theorem St.pull9 {A0 A1 A2 A3 A4 A5 A6 A7 A8 A9 : SP} (h : St w0 w I (A0 :: A1 :: A2 :: A3 :: A4 :: A5 :: A6 :: A7 :: A8 :: A9 :: L) R) : St w0 w I (A9 :: A0 :: A1 :: A2 :: A3 :: A4 :: A5 :: A6 :: A7 :: A8 :: L) R := h.pull 9 rfl rfl
theorem St.pull10 {A0 A1 A2 A3 A4 A5 A6 A7 A8 A9 A10 : SP} (h : St w0 w I (A0 :: A1 :: A2 :: A3 :: A4 :: A5 :: A6 :: A7 :: A8 :: A9 :: A10 :: L) R) : St w0 w I (A10 :: A0 :: A1 :: A2 :: A3 :: A4 :: A5 :: A6 :: A7 :: A8 :: A9 :: L) R := h.pull 10 rfl rfl
theorem St.pull11 {A0 A1 A2 A3 A4 A5 A6 A7 A8 A9 A10 A11 : SP} (h : St w0 w I (A0 :: A1 :: A2 :: A3 :: A4 :: A5 :: A6 :: A7 :: A8 :: A9 :: A10 :: A11 :: L) R) : St w0 w I (A11 :: A0 :: A1 :: A2 :: A3 :: A4 :: A5 :: A6 :: A7 :: A8 :: A9 :: A10 :: L) R := h.pull 11 rfl rfl
theorem St.pull12 {A0 A1 A2 A3 A4 A5 A6 A7 A8 A9 A10 A11 A12 : SP} (h : St w0 w I (A0 :: A1 :: A2 :: A3 :: A4 :: A5 :: A6 :: A7 :: A8 :: A9 :: A10 :: A11 :: A12 :: L) R) : St w0 w I (A12 :: A0 :: A1 :: A2 :: A3 :: A4 :: A5 :: A6 :: A7 :: A8 :: A9 :: A10 :: A11 :: L) R := h.pull 12 rfl rfl
theorem St.pull13 {A0 A1 A2 A3 A4 A5 A6 A7 A8 A9 A10 A11 A12 A13 : SP} (h : St w0 w I (A0 :: A1 :: A2 :: A3 :: A4 :: A5 :: A6 :: A7 :: A8 :: A9 :: A10 :: A11 :: A12 :: A13 :: L) R) : St w0 w I (A13 :: A0 :: A1 :: A2 :: A3 :: A4 :: A5 :: A6 :: A7 :: A8 :: A9 :: A10 :: A11 :: A12 :: L) R := h.pull 13 rfl rfl
theorem St.pull14 {A0 A1 A2 A3 A4 A5 A6 A7 A8 A9 A10 A11 A12 A13 A14 : SP} (h : St w0 w I (A0 :: A1 :: A2 :: A3 :: A4 :: A5 :: A6 :: A7 :: A8 :: A9 :: A10 :: A11 :: A12 :: A13 :: A14 :: L) R) : St w0 w I (A14 :: A0 :: A1 :: A2 :: A3 :: A4 :: A5 :: A6 :: A7 :: A8 :: A9 :: A10 :: A11 :: A12 :: A13 :: L) R := h.pull 14 rfl rfl
theorem St.pull15 {A0 A1 A2 A3 A4 A5 A6 A7 A8 A9 A10 A11 A12 A13 A14 A15 : SP} (h : St w0 w I (A0 :: A1 :: A2 :: A3 :: A4 :: A5 :: A6 :: A7 :: A8 :: A9 :: A10 :: A11 :: A12 :: A13 :: A14 :: A15 :: L) R) : St w0 w I (A15 :: A0 :: A1 :: A2 :: A3 :: A4 :: A5 :: A6 :: A7 :: A8 :: A9 :: A10 :: A11 :: A12 :: A13 :: A14 :: L) R := h.pull 15 rfl rfl
theorem St.pull16 {A0 A1 A2 A3 A4 A5 A6 A7 A8 A9 A10 A11 A12 A13 A14 A15 A16 : SP} (h : St w0 w I (A0 :: A1 :: A2 :: A3 :: A4 :: A5 :: A6 :: A7 :: A8 :: A9 :: A10 :: A11 :: A12 :: A13 :: A14 :: A15 :: A16 :: L) R) : St w0 w I (A16 :: A0 :: A1 :: A2 :: A3 :: A4 :: A5 :: A6 :: A7 :: A8 :: A9 :: A10 :: A11 :: A12 :: A13 :: A14 :: A15 :: L) R := h.pull 16 rfl rfl
theorem St.pull17 {A0 A1 A2 A3 A4 A5 A6 A7 A8 A9 A10 A11 A12 A13 A14 A15 A16 A17 : SP} (h : St w0 w I (A0 :: A1 :: A2 :: A3 :: A4 :: A5 :: A6 :: A7 :: A8 :: A9 :: A10 :: A11 :: A12 :: A13 :: A14 :: A15 :: A16 :: A17 :: L) R) : St w0 w I (A17 :: A0 :: A1 :: A2 :: A3 :: A4 :: A5 :: A6 :: A7 :: A8 :: A9 :: A10 :: A11 :: A12 :: A13 :: A14 :: A15 :: A16 :: L) R := h.pull 17 rfl rfl
theorem St.pull19 {A0 A1 A2 A3 A4 A5 A6 A7 A8 A9 A10 A11 A12 A13 A14 A15 A16 A17 A18 A19 : SP} (h : St w0 w I (A0 :: A1 :: A2 :: A3 :: A4 :: A5 :: A6 :: A7 :: A8 :: A9 :: A10 :: A11 :: A12 :: A13 :: A14 :: A15 :: A16 :: A17 :: A18 :: A19 :: L) R) : St w0 w I (A19 :: A0 :: A1 :: A2 :: A3 :: A4 :: A5 :: A6 :: A7 :: A8 :: A9 :: A10 :: A11 :: A12 :: A13 :: A14 :: A15 :: A16 :: A17 :: A18 :: L) R := h.pull 19 rfl rfl
theorem St.to1 {A0 : SP} (h : St w0 w I (A0 :: L) R) : St w0 w I [A0] (big L R) := h.split (L1 := [A0])
theorem St.to0 (h : St w0 w I L R) : St w0 w I [] (big L R) := h.split (L1 := [])
theorem St.of1 {A0 : SP} (h : St w0 w I [A0] (big L R)) : St w0 w I (A0 :: L) R := h.unsplit (L1 := [A0])
theorem St.of2 {A0 A1 : SP} (h : St w0 w I [A0, A1] (big L R)) : St w0 w I (A0 :: A1 :: L) R := h.unsplit (L1 := [A0, A1])
theorem St.of3 {A0 A1 A2 : SP} (h : St w0 w I [A0, A1, A2] (big L R)) : St w0 w I (A0 :: A1 :: A2 :: L) R := h.unsplit (L1 := [A0, A1, A2])
theorem St.of5 {A0 A1 A2 A3 A4 : SP} (h : St w0 w I [A0, A1, A2, A3, A4] (big L R)) : St w0 w I (A0 :: A1 :: A2 :: A3 :: A4 :: L) R := h.unsplit (L1 := [A0, A1, A2, A3, A4])
theorem St.of8 {A0 A1 A2 A3 A4 A5 A6 A7 : SP} (h : St w0 w I [A0, A1, A2, A3, A4, A5, A6, A7] (big L R)) : St w0 w I (A0 :: A1 :: A2 :: A3 :: A4 :: A5 :: A6 :: A7 :: L) R := h.unsplit (L1 := [A0, A1, A2, A3, A4, A5, A6, A7])
theorem St.of9 {A0 A1 A2 A3 A4 A5 A6 A7 A8 : SP} (h : St w0 w I [A0, A1, A2, A3, A4, A5, A6, A7, A8] (big L R)) : St w0 w I (A0 :: A1 :: A2 :: A3 :: A4 :: A5 :: A6 :: A7 :: A8 :: L) R := h.unsplit (L1 := [A0, A1, A2, A3, A4, A5, A6, A7, A8])
theorem St.of0 (h : St w0 w I [] (big L R)) : St w0 w I L R := h.unsplit (L1 := [])
end st
end Go.V
