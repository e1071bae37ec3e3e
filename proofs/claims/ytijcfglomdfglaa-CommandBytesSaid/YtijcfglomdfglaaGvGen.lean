/- What the printed proofs lean on; generic over the program. -/
import Derived.Test.YtijcfglomdfglaaGvMore
set_option linter.unusedVariables false
set_option linter.unusedSimpArgs false
namespace Go.V
open Go

def objO {α : Type} (A : Value → α → SP) (pv : Value) (x : Option α) : SP := match x with
  | none => andS (fun _ => pv = .pointer none) (fun _ _ _ h => h) emp
  | some y => A pv y
def room {α β : Type} (xs : List α) (ys : List β) : Bool := decide (xs.length + ys.length ≤ 1073741824)
theorem room_of {α β : Type} {xs : List α} {ys : List β} {b : Nat} (h : room xs ys = true) (hb : Nat.ble b 60000 = true) : (xs.length + ys.length) * b ≤ 70368744177664 := by
  have h1 : xs.length + ys.length ≤ 1073741824 := of_decide_eq_true h
  have h2 : b ≤ 60000 := Nat.le_of_ble_eq_true hb
  calc (xs.length + ys.length) * b ≤ 1073741824 * b := Nat.mul_le_mul_right _ h1
    _ ≤ 1073741824 * 60000 := Nat.mul_le_mul_left _ h2
    _ ≤ 70368744177664 := by decide
theorem bsplit {p : Prop} (b : Bool) (h1 : b = true → p) (h2 : b = false → p) : p := by cases b; exact h2 rfl; exact h1 rfl
theorem ptr_inj {a b : Nat} (h : Value.pointer (some ⟨a, 0, none⟩) = Value.pointer (some ⟨b, 0, none⟩)) : a = b := by cases h; rfl
theorem not_t {b : Bool} (h : (!b) = true) : b = false := by simpa using h
theorem inr_up {S R : Type} {x : Option R} {y : S ⊕ R} {g : S → Option R} {r : R} (h : inrO x = some y) (hx : LR g y r) : x = some r := by
  obtain ⟨z, hz, rfl⟩ := inrO_some h
  rw [hz]; exact congrArg some hx
theorem fr_upd {N t : Nat} {σ : Nat → Value} {v : Value} (h : σ t = v) : Fr N σ = Fr N (upd σ t v) := by
  have : upd σ t v = σ := by
    funext i
    unfold upd
    cases hb : Nat.beq i t with
    | true => have := Nat.eq_of_beq_eq_true hb; subst this; exact h.symm
    | false => rfl
  rw [this]
theorem ones_nil : ∀ v ∈ ([] : List Value), v.oneCell' = true := by simp
theorem ones_cons {v : Value} {l : List Value} (h : v.oneCell' = true) (k : ∀ u ∈ l, u.oneCell' = true) : ∀ u ∈ v :: l, u.oneCell' = true := by
  intro u hu
  rcases List.mem_cons.1 hu with rfl | hu
  · exact h
  · exact k u hu
section
variable {P : Program} {ρ : Operand → Value} {α : Type} {E : Ty α} {N : Nat} {σ : Nat → Value} {w0 w w' : World} {I I' : HL} {L : List SP} {R : SP} {v x V : Value} {xs ys : List α} {y z : α} {i k : Nat} {t t' e : TypeId} {b o : Nat} {cs vs : List Value} {pv : Value} {A : Value → α → SP}
  {dd : Option Tmp} {ty : TypeId} {ps : String} {af : Array Edge} {g : Option (Nat × Bool)}
theorem objO_none (h : St w0 w I (objO A pv none :: L) R) : pv = .pointer none ∧ St w0 w I L R := by
  obtain ⟨h1, h2⟩ := St.and (A := emp) (hφ := fun _ _ _ h => h) h
  exact ⟨h1, h2.sub⟩
theorem objO_get (h : St w0 w I (objO A pv (some y) :: L) R) : St w0 w I (A pv y :: L) R := h
theorem ro_nil : Ro E I (.slice none 0 0) [] := ⟨[], ⟨by simp, none, 0, rfl, Nat.le_refl _, fun h => absurd rfl h⟩, Reps.nil⟩
theorem St.box (h : St w0 w I L R) (cs : List Value) (e : TypeId) : ∃ b w', w.alloc (.cells cs.toArray e) = w' ∧ w.heap.size = b ∧ St w0 w' I (cells b cs :: L) R := ⟨_, _, rfl, rfl, h.new cs e⟩
theorem x_al {s : Sem Next} {ob : Obj} (h : s.run P w = .ok (.value (.pointer (some ⟨w.heap.size, 0, none⟩))) (w.alloc ob)) (ew : w.alloc ob = w') (eb : w.heap.size = b) : s.run P w = .ok (.value (.pointer (some ⟨b, 0, none⟩))) w' := by subst ew; subst eb; exact h
theorem x_als {s : Sem Next} {ob : Obj} {n m : Nat} (h : s.run P w = .ok (.value (.slice (some ⟨w.heap.size, 0, none⟩) n m)) (w.alloc ob)) (ew : w.alloc ob = w') (eb : w.heap.size = b) : s.run P w = .ok (.value (.slice (some ⟨b, 0, none⟩) n m)) w' := by subst ew; subst eb; exact h
/-- A slice that is written out. -/
theorem St.lits (h : St w0 w I L R) (css : List (List Value)) (e : TypeId) (n : Nat) (hn : css.length = n) (hr : Reps (E.rep (RoRow I)) xs css) : ∃ b w', w.alloc (.cells css.flatten.toArray e) = w' ∧ w.heap.size = b ∧ St w0 w' I (ownS E (.slice (some ⟨b, 0, none⟩) n n) xs :: L) R := by
  subst hn
  refine ⟨_, _, rfl, rfl, St.own_close ?_ hr⟩
  have h1 := h.new css.flatten e
  exact St.row_mk (pre := []) (junk := []) (by simpa using h1) (Nat.le_refl _) hr.lens rfl (by simp)
theorem wq_regionS {id : Nat} {l : List Oper} {a : Act} {Q : Exit → Act → World → Prop} (hst : St w0 w I L R) (hm : P.follows .mixedOrders = true) (hB : Region.lexB .any l.toArray = true)
    (h : wpQuiet P l.toArray (fun w' => St w0 w' I L R) (fun a' => ∀ w', St w0 w' I L R → Q .normal a' w') l a) : (Code.region id l.toArray true).wp P Q a w :=
  wq_region (fun w' => St w0 w' I L R) hm hB (hst.drawn _) h
theorem x_append {a c : Operand} {t t' : TypeId} {X : Value} (ha : ρ a = V) (hc : ρ c = X) (h : (Builtin.append_ #[t, t'] ty #[V, X]).run P w = .ok v w') :
    (execOp ρ ⟨dd, .call { callee := .builtin .append, args := #[a, c], argTypes := #[t, t'] }, ty, ps, af, g⟩).run P w = .ok (.value v) w' := by
  simp [execOp, resolve, invoke, builtin, ha, hc, h, Result.andThen]
theorem St.nil_app (h : St w0 w I (ownS E v ([] ++ ys) :: L) R) : St w0 w I (ownS E v ys :: L) R := by rwa [List.nil_append] at h
theorem own_load (hst : St w0 w I L R) (k : Nat) (hL : L[k]? = some (ownS E v xs)) (hi : xs[i]? = some y) (hrep : ∀ cs, E.rep (RoRow I) y cs → cs[o]? = some x) : w.cell? (eAddr v (i * E.sz + o)) = some x := by
  obtain ⟨cs, h1, h2⟩ := hst.own_get k hL hi
  exact h2 o x (hrep cs h1)
theorem rd_load (h : Rd E R I v xs) (hI : I.le I') (hst : St w0 w I' L R) (hi : xs[i]? = some y) (hrep : ∀ cs, E.rep (RdRow R I') y cs → cs[o]? = some x) : w.cell? (eAddr v (i * E.sz + o)) = some x := by
  obtain ⟨cs, h1, h2⟩ := h.get hI hst hi
  exact h2 o x (hrep cs h1)
theorem rd_loadN (h : Rd E R I v xs) (hI : I.le I') (hst : St w0 w I' L R) (hi : xs[i]? = some y) (o : Nat) (hrep : ∀ cs, E.rep (RdRow R I') y cs → (cs.drop o).take vs.length = vs) : ∀ j u, vs[j]? = some u → w.cell? ((eAddr v (i * E.sz + o)).add j) = some u := by
  obtain ⟨cs, h1, h2⟩ := h.get hI hst hi
  exact eCells h2 (hrep cs h1)
theorem ro_load (h : Ro E I v xs) (hst : St w0 w I L R) (hi : xs[i]? = some y) (hrep : ∀ cs, E.rep (RoRow I) y cs → cs[o]? = some x) : w.cell? (eAddr v (i * E.sz + o)) = some x := by
  obtain ⟨cs, h1, h2⟩ := h.get hst hi
  exact h2 o x (hrep cs h1)
theorem wl_val {ops : Array Oper} {Q : Exit → Act → World → Prop} {rest : List Oper} {op : Oper} {d : Nat} (hw : Region.wanted op (yielded ops (Fr N σ).tmps) = true) (hd : op.dst = some d)
    (h : (execOp (ev N σ) op).run P w = .ok (.value v) w) (k : wpList P ops Q rest (Fr N (upd σ d v)) w) : wpList P ops Q (op :: rest) (Fr N σ) w := wl_run hw hd h k
theorem rv_tmp {t : Nat} (h : ev N σ (.tmp t) = v) : RV P N σ w (.tmp t) v := h
theorem rvs_nil : RVs P N σ w [] [] := trivial
theorem rvs_cons {r : ResultVar} {rs : List ResultVar} (h : RV P N σ w r v) (k : RVs P N σ w rs vs) : RVs P N σ w (r :: rs) (v :: vs) := ⟨h, k⟩
theorem St.keepL (h : St w0 w I L R) (n : Nat) {L1 : List SP} (h1 : L.take n = L1) : St w0 w I L1 R := by
  subst h1
  have h2 : St w0 w I (L.drop n ++ L.take n) R := by
    have h3 : St w0 w I (L.take n ++ L.drop n) R := by rw [List.take_append_drop]; exact h
    exact h3.comm
  have key : ∀ (D : List SP), St w0 w I (D ++ L.take n) R → St w0 w I (L.take n) R := by
    intro D
    induction D with
    | nil => exact id
    | cons X D ih => exact fun h => ih h.sub
  exact key _ h2
end
theorem St.bc0 {w0 w : World} {I : HL} {L : List SP} {R : SP} {b o : Nat} {cs : List Value} {x : Value} (h : St w0 w I (cells b cs :: L) R) (ho : cs[o]? = some x) : w.cell? ⟨b, o, none⟩ = some x := h.boxCell 0 rfl ho
theorem St.bcs0 {w0 w : World} {I : HL} {L : List SP} {R : SP} {b : Nat} {cs vs : List Value} (h : St w0 w I (cells b cs :: L) R) (o : Nat) (hv : (cs.drop o).take vs.length = vs) : ∀ j y, vs[j]? = some y → w.cell? ((⟨b, o, none⟩ : Addr).add j) = some y := h.boxCells 0 rfl o hv
theorem St.sv0 {w0 w : World} {I : HL} {L : List SP} {R : SP} {α : Type} {E : Ty α} {v : Value} {xs : List α} (h : St w0 w I (ownS E v xs :: L) R) : SliceV v xs.length := h.own_sliceV 0 rfl
theorem St.ol0 {w0 w : World} {I : HL} {L : List SP} {R : SP} {α : Type} {E : Ty α} {v x : Value} {xs : List α} {i o : Nat} {y : α} (h : St w0 w I (ownS E v xs :: L) R) (hi : xs[i]? = some y) (hrep : ∀ cs, E.rep (RoRow I) y cs → cs[o]? = some x) : w.cell? (eAddr v (i * E.sz + o)) = some x := own_load h 0 rfl hi hrep
theorem St.src0 {w0 w : World} {I : HL} {L : List SP} {R : SP} {α : Type} {E : Ty α} {v : Value} {xs : List α} (h : St w0 w I (ownS E v xs :: L) R) : Src E w I v xs := Src.of_own h 0 rfl
theorem St.rdrow0 {w0 w : World} {I : HL} {L : List SP} {R : SP} {α : Type} {E : Ty α} {v : Value} {xs : List α} {css : List (List Value)} (h : St w0 w I (row E.sz v css :: L) R) (hr : Reps (E.rep (RoRow I)) xs css) : Rd E (big (row E.sz v css :: L) R) I v xs := Rd.of_row 0 h rfl hr
theorem St.bc1 {w0 w : World} {I : HL} {L : List SP} {R : SP} {A0 : SP} {b o : Nat} {cs : List Value} {x : Value} (h : St w0 w I (A0 :: cells b cs :: L) R) (ho : cs[o]? = some x) : w.cell? ⟨b, o, none⟩ = some x := h.boxCell 1 rfl ho
theorem St.bcs1 {w0 w : World} {I : HL} {L : List SP} {R : SP} {A0 : SP} {b : Nat} {cs vs : List Value} (h : St w0 w I (A0 :: cells b cs :: L) R) (o : Nat) (hv : (cs.drop o).take vs.length = vs) : ∀ j y, vs[j]? = some y → w.cell? ((⟨b, o, none⟩ : Addr).add j) = some y := h.boxCells 1 rfl o hv
theorem St.sv1 {w0 w : World} {I : HL} {L : List SP} {R : SP} {A0 : SP} {α : Type} {E : Ty α} {v : Value} {xs : List α} (h : St w0 w I (A0 :: ownS E v xs :: L) R) : SliceV v xs.length := h.own_sliceV 1 rfl
theorem St.ol1 {w0 w : World} {I : HL} {L : List SP} {R : SP} {A0 : SP} {α : Type} {E : Ty α} {v x : Value} {xs : List α} {i o : Nat} {y : α} (h : St w0 w I (A0 :: ownS E v xs :: L) R) (hi : xs[i]? = some y) (hrep : ∀ cs, E.rep (RoRow I) y cs → cs[o]? = some x) : w.cell? (eAddr v (i * E.sz + o)) = some x := own_load h 1 rfl hi hrep
theorem St.src1 {w0 w : World} {I : HL} {L : List SP} {R : SP} {A0 : SP} {α : Type} {E : Ty α} {v : Value} {xs : List α} (h : St w0 w I (A0 :: ownS E v xs :: L) R) : Src E w I v xs := Src.of_own h 1 rfl
theorem St.rdrow1 {w0 w : World} {I : HL} {L : List SP} {R : SP} {A0 : SP} {α : Type} {E : Ty α} {v : Value} {xs : List α} {css : List (List Value)} (h : St w0 w I (A0 :: row E.sz v css :: L) R) (hr : Reps (E.rep (RoRow I)) xs css) : Rd E (big (A0 :: row E.sz v css :: L) R) I v xs := Rd.of_row 1 h rfl hr
theorem St.bc2 {w0 w : World} {I : HL} {L : List SP} {R : SP} {A0 A1 : SP} {b o : Nat} {cs : List Value} {x : Value} (h : St w0 w I (A0 :: A1 :: cells b cs :: L) R) (ho : cs[o]? = some x) : w.cell? ⟨b, o, none⟩ = some x := h.boxCell 2 rfl ho
theorem St.bcs2 {w0 w : World} {I : HL} {L : List SP} {R : SP} {A0 A1 : SP} {b : Nat} {cs vs : List Value} (h : St w0 w I (A0 :: A1 :: cells b cs :: L) R) (o : Nat) (hv : (cs.drop o).take vs.length = vs) : ∀ j y, vs[j]? = some y → w.cell? ((⟨b, o, none⟩ : Addr).add j) = some y := h.boxCells 2 rfl o hv
theorem St.sv2 {w0 w : World} {I : HL} {L : List SP} {R : SP} {A0 A1 : SP} {α : Type} {E : Ty α} {v : Value} {xs : List α} (h : St w0 w I (A0 :: A1 :: ownS E v xs :: L) R) : SliceV v xs.length := h.own_sliceV 2 rfl
theorem St.ol2 {w0 w : World} {I : HL} {L : List SP} {R : SP} {A0 A1 : SP} {α : Type} {E : Ty α} {v x : Value} {xs : List α} {i o : Nat} {y : α} (h : St w0 w I (A0 :: A1 :: ownS E v xs :: L) R) (hi : xs[i]? = some y) (hrep : ∀ cs, E.rep (RoRow I) y cs → cs[o]? = some x) : w.cell? (eAddr v (i * E.sz + o)) = some x := own_load h 2 rfl hi hrep
theorem St.rdrow2 {w0 w : World} {I : HL} {L : List SP} {R : SP} {A0 A1 : SP} {α : Type} {E : Ty α} {v : Value} {xs : List α} {css : List (List Value)} (h : St w0 w I (A0 :: A1 :: row E.sz v css :: L) R) (hr : Reps (E.rep (RoRow I)) xs css) : Rd E (big (A0 :: A1 :: row E.sz v css :: L) R) I v xs := Rd.of_row 2 h rfl hr
theorem St.bc3 {w0 w : World} {I : HL} {L : List SP} {R : SP} {A0 A1 A2 : SP} {b o : Nat} {cs : List Value} {x : Value} (h : St w0 w I (A0 :: A1 :: A2 :: cells b cs :: L) R) (ho : cs[o]? = some x) : w.cell? ⟨b, o, none⟩ = some x := h.boxCell 3 rfl ho
theorem St.bcs3 {w0 w : World} {I : HL} {L : List SP} {R : SP} {A0 A1 A2 : SP} {b : Nat} {cs vs : List Value} (h : St w0 w I (A0 :: A1 :: A2 :: cells b cs :: L) R) (o : Nat) (hv : (cs.drop o).take vs.length = vs) : ∀ j y, vs[j]? = some y → w.cell? ((⟨b, o, none⟩ : Addr).add j) = some y := h.boxCells 3 rfl o hv
theorem St.sv3 {w0 w : World} {I : HL} {L : List SP} {R : SP} {A0 A1 A2 : SP} {α : Type} {E : Ty α} {v : Value} {xs : List α} (h : St w0 w I (A0 :: A1 :: A2 :: ownS E v xs :: L) R) : SliceV v xs.length := h.own_sliceV 3 rfl
theorem St.rdrow3 {w0 w : World} {I : HL} {L : List SP} {R : SP} {A0 A1 A2 : SP} {α : Type} {E : Ty α} {v : Value} {xs : List α} {css : List (List Value)} (h : St w0 w I (A0 :: A1 :: A2 :: row E.sz v css :: L) R) (hr : Reps (E.rep (RoRow I)) xs css) : Rd E (big (A0 :: A1 :: A2 :: row E.sz v css :: L) R) I v xs := Rd.of_row 3 h rfl hr
theorem St.bc4 {w0 w : World} {I : HL} {L : List SP} {R : SP} {A0 A1 A2 A3 : SP} {b o : Nat} {cs : List Value} {x : Value} (h : St w0 w I (A0 :: A1 :: A2 :: A3 :: cells b cs :: L) R) (ho : cs[o]? = some x) : w.cell? ⟨b, o, none⟩ = some x := h.boxCell 4 rfl ho
theorem St.bcs4 {w0 w : World} {I : HL} {L : List SP} {R : SP} {A0 A1 A2 A3 : SP} {b : Nat} {cs vs : List Value} (h : St w0 w I (A0 :: A1 :: A2 :: A3 :: cells b cs :: L) R) (o : Nat) (hv : (cs.drop o).take vs.length = vs) : ∀ j y, vs[j]? = some y → w.cell? ((⟨b, o, none⟩ : Addr).add j) = some y := h.boxCells 4 rfl o hv
theorem St.sv4 {w0 w : World} {I : HL} {L : List SP} {R : SP} {A0 A1 A2 A3 : SP} {α : Type} {E : Ty α} {v : Value} {xs : List α} (h : St w0 w I (A0 :: A1 :: A2 :: A3 :: ownS E v xs :: L) R) : SliceV v xs.length := h.own_sliceV 4 rfl
theorem St.rdrow4 {w0 w : World} {I : HL} {L : List SP} {R : SP} {A0 A1 A2 A3 : SP} {α : Type} {E : Ty α} {v : Value} {xs : List α} {css : List (List Value)} (h : St w0 w I (A0 :: A1 :: A2 :: A3 :: row E.sz v css :: L) R) (hr : Reps (E.rep (RoRow I)) xs css) : Rd E (big (A0 :: A1 :: A2 :: A3 :: row E.sz v css :: L) R) I v xs := Rd.of_row 4 h rfl hr
theorem St.bc5 {w0 w : World} {I : HL} {L : List SP} {R : SP} {A0 A1 A2 A3 A4 : SP} {b o : Nat} {cs : List Value} {x : Value} (h : St w0 w I (A0 :: A1 :: A2 :: A3 :: A4 :: cells b cs :: L) R) (ho : cs[o]? = some x) : w.cell? ⟨b, o, none⟩ = some x := h.boxCell 5 rfl ho
theorem St.bcs5 {w0 w : World} {I : HL} {L : List SP} {R : SP} {A0 A1 A2 A3 A4 : SP} {b : Nat} {cs vs : List Value} (h : St w0 w I (A0 :: A1 :: A2 :: A3 :: A4 :: cells b cs :: L) R) (o : Nat) (hv : (cs.drop o).take vs.length = vs) : ∀ j y, vs[j]? = some y → w.cell? ((⟨b, o, none⟩ : Addr).add j) = some y := h.boxCells 5 rfl o hv
theorem St.sv5 {w0 w : World} {I : HL} {L : List SP} {R : SP} {A0 A1 A2 A3 A4 : SP} {α : Type} {E : Ty α} {v : Value} {xs : List α} (h : St w0 w I (A0 :: A1 :: A2 :: A3 :: A4 :: ownS E v xs :: L) R) : SliceV v xs.length := h.own_sliceV 5 rfl
theorem St.rdrow5 {w0 w : World} {I : HL} {L : List SP} {R : SP} {A0 A1 A2 A3 A4 : SP} {α : Type} {E : Ty α} {v : Value} {xs : List α} {css : List (List Value)} (h : St w0 w I (A0 :: A1 :: A2 :: A3 :: A4 :: row E.sz v css :: L) R) (hr : Reps (E.rep (RoRow I)) xs css) : Rd E (big (A0 :: A1 :: A2 :: A3 :: A4 :: row E.sz v css :: L) R) I v xs := Rd.of_row 5 h rfl hr
theorem St.bc6 {w0 w : World} {I : HL} {L : List SP} {R : SP} {A0 A1 A2 A3 A4 A5 : SP} {b o : Nat} {cs : List Value} {x : Value} (h : St w0 w I (A0 :: A1 :: A2 :: A3 :: A4 :: A5 :: cells b cs :: L) R) (ho : cs[o]? = some x) : w.cell? ⟨b, o, none⟩ = some x := h.boxCell 6 rfl ho
theorem St.sv6 {w0 w : World} {I : HL} {L : List SP} {R : SP} {A0 A1 A2 A3 A4 A5 : SP} {α : Type} {E : Ty α} {v : Value} {xs : List α} (h : St w0 w I (A0 :: A1 :: A2 :: A3 :: A4 :: A5 :: ownS E v xs :: L) R) : SliceV v xs.length := h.own_sliceV 6 rfl
theorem St.rdrow6 {w0 w : World} {I : HL} {L : List SP} {R : SP} {A0 A1 A2 A3 A4 A5 : SP} {α : Type} {E : Ty α} {v : Value} {xs : List α} {css : List (List Value)} (h : St w0 w I (A0 :: A1 :: A2 :: A3 :: A4 :: A5 :: row E.sz v css :: L) R) (hr : Reps (E.rep (RoRow I)) xs css) : Rd E (big (A0 :: A1 :: A2 :: A3 :: A4 :: A5 :: row E.sz v css :: L) R) I v xs := Rd.of_row 6 h rfl hr
theorem St.bcs7 {w0 w : World} {I : HL} {L : List SP} {R : SP} {A0 A1 A2 A3 A4 A5 A6 : SP} {b : Nat} {cs vs : List Value} (h : St w0 w I (A0 :: A1 :: A2 :: A3 :: A4 :: A5 :: A6 :: cells b cs :: L) R) (o : Nat) (hv : (cs.drop o).take vs.length = vs) : ∀ j y, vs[j]? = some y → w.cell? ((⟨b, o, none⟩ : Addr).add j) = some y := h.boxCells 7 rfl o hv
theorem St.sv7 {w0 w : World} {I : HL} {L : List SP} {R : SP} {A0 A1 A2 A3 A4 A5 A6 : SP} {α : Type} {E : Ty α} {v : Value} {xs : List α} (h : St w0 w I (A0 :: A1 :: A2 :: A3 :: A4 :: A5 :: A6 :: ownS E v xs :: L) R) : SliceV v xs.length := h.own_sliceV 7 rfl
theorem St.rdrow7 {w0 w : World} {I : HL} {L : List SP} {R : SP} {A0 A1 A2 A3 A4 A5 A6 : SP} {α : Type} {E : Ty α} {v : Value} {xs : List α} {css : List (List Value)} (h : St w0 w I (A0 :: A1 :: A2 :: A3 :: A4 :: A5 :: A6 :: row E.sz v css :: L) R) (hr : Reps (E.rep (RoRow I)) xs css) : Rd E (big (A0 :: A1 :: A2 :: A3 :: A4 :: A5 :: A6 :: row E.sz v css :: L) R) I v xs := Rd.of_row 7 h rfl hr
theorem St.bcs8 {w0 w : World} {I : HL} {L : List SP} {R : SP} {A0 A1 A2 A3 A4 A5 A6 A7 : SP} {b : Nat} {cs vs : List Value} (h : St w0 w I (A0 :: A1 :: A2 :: A3 :: A4 :: A5 :: A6 :: A7 :: cells b cs :: L) R) (o : Nat) (hv : (cs.drop o).take vs.length = vs) : ∀ j y, vs[j]? = some y → w.cell? ((⟨b, o, none⟩ : Addr).add j) = some y := h.boxCells 8 rfl o hv
theorem St.sv8 {w0 w : World} {I : HL} {L : List SP} {R : SP} {A0 A1 A2 A3 A4 A5 A6 A7 : SP} {α : Type} {E : Ty α} {v : Value} {xs : List α} (h : St w0 w I (A0 :: A1 :: A2 :: A3 :: A4 :: A5 :: A6 :: A7 :: ownS E v xs :: L) R) : SliceV v xs.length := h.own_sliceV 8 rfl
theorem St.src8 {w0 w : World} {I : HL} {L : List SP} {R : SP} {A0 A1 A2 A3 A4 A5 A6 A7 : SP} {α : Type} {E : Ty α} {v : Value} {xs : List α} (h : St w0 w I (A0 :: A1 :: A2 :: A3 :: A4 :: A5 :: A6 :: A7 :: ownS E v xs :: L) R) : Src E w I v xs := Src.of_own h 8 rfl
theorem St.rdrow8 {w0 w : World} {I : HL} {L : List SP} {R : SP} {A0 A1 A2 A3 A4 A5 A6 A7 : SP} {α : Type} {E : Ty α} {v : Value} {xs : List α} {css : List (List Value)} (h : St w0 w I (A0 :: A1 :: A2 :: A3 :: A4 :: A5 :: A6 :: A7 :: row E.sz v css :: L) R) (hr : Reps (E.rep (RoRow I)) xs css) : Rd E (big (A0 :: A1 :: A2 :: A3 :: A4 :: A5 :: A6 :: A7 :: row E.sz v css :: L) R) I v xs := Rd.of_row 8 h rfl hr
theorem St.bcs9 {w0 w : World} {I : HL} {L : List SP} {R : SP} {A0 A1 A2 A3 A4 A5 A6 A7 A8 : SP} {b : Nat} {cs vs : List Value} (h : St w0 w I (A0 :: A1 :: A2 :: A3 :: A4 :: A5 :: A6 :: A7 :: A8 :: cells b cs :: L) R) (o : Nat) (hv : (cs.drop o).take vs.length = vs) : ∀ j y, vs[j]? = some y → w.cell? ((⟨b, o, none⟩ : Addr).add j) = some y := h.boxCells 9 rfl o hv
theorem St.sv9 {w0 w : World} {I : HL} {L : List SP} {R : SP} {A0 A1 A2 A3 A4 A5 A6 A7 A8 : SP} {α : Type} {E : Ty α} {v : Value} {xs : List α} (h : St w0 w I (A0 :: A1 :: A2 :: A3 :: A4 :: A5 :: A6 :: A7 :: A8 :: ownS E v xs :: L) R) : SliceV v xs.length := h.own_sliceV 9 rfl
theorem St.rdrow9 {w0 w : World} {I : HL} {L : List SP} {R : SP} {A0 A1 A2 A3 A4 A5 A6 A7 A8 : SP} {α : Type} {E : Ty α} {v : Value} {xs : List α} {css : List (List Value)} (h : St w0 w I (A0 :: A1 :: A2 :: A3 :: A4 :: A5 :: A6 :: A7 :: A8 :: row E.sz v css :: L) R) (hr : Reps (E.rep (RoRow I)) xs css) : Rd E (big (A0 :: A1 :: A2 :: A3 :: A4 :: A5 :: A6 :: A7 :: A8 :: row E.sz v css :: L) R) I v xs := Rd.of_row 9 h rfl hr
theorem St.rdrow10 {w0 w : World} {I : HL} {L : List SP} {R : SP} {A0 A1 A2 A3 A4 A5 A6 A7 A8 A9 : SP} {α : Type} {E : Ty α} {v : Value} {xs : List α} {css : List (List Value)} (h : St w0 w I (A0 :: A1 :: A2 :: A3 :: A4 :: A5 :: A6 :: A7 :: A8 :: A9 :: row E.sz v css :: L) R) (hr : Reps (E.rep (RoRow I)) xs css) : Rd E (big (A0 :: A1 :: A2 :: A3 :: A4 :: A5 :: A6 :: A7 :: A8 :: A9 :: row E.sz v css :: L) R) I v xs := Rd.of_row 10 h rfl hr
theorem St.rdrow11 {w0 w : World} {I : HL} {L : List SP} {R : SP} {A0 A1 A2 A3 A4 A5 A6 A7 A8 A9 A10 : SP} {α : Type} {E : Ty α} {v : Value} {xs : List α} {css : List (List Value)} (h : St w0 w I (A0 :: A1 :: A2 :: A3 :: A4 :: A5 :: A6 :: A7 :: A8 :: A9 :: A10 :: row E.sz v css :: L) R) (hr : Reps (E.rep (RoRow I)) xs css) : Rd E (big (A0 :: A1 :: A2 :: A3 :: A4 :: A5 :: A6 :: A7 :: A8 :: A9 :: A10 :: row E.sz v css :: L) R) I v xs := Rd.of_row 11 h rfl hr
theorem St.bcs12 {w0 w : World} {I : HL} {L : List SP} {R : SP} {A0 A1 A2 A3 A4 A5 A6 A7 A8 A9 A10 A11 : SP} {b : Nat} {cs vs : List Value} (h : St w0 w I (A0 :: A1 :: A2 :: A3 :: A4 :: A5 :: A6 :: A7 :: A8 :: A9 :: A10 :: A11 :: cells b cs :: L) R) (o : Nat) (hv : (cs.drop o).take vs.length = vs) : ∀ j y, vs[j]? = some y → w.cell? ((⟨b, o, none⟩ : Addr).add j) = some y := h.boxCells 12 rfl o hv
theorem St.rdrow12 {w0 w : World} {I : HL} {L : List SP} {R : SP} {A0 A1 A2 A3 A4 A5 A6 A7 A8 A9 A10 A11 : SP} {α : Type} {E : Ty α} {v : Value} {xs : List α} {css : List (List Value)} (h : St w0 w I (A0 :: A1 :: A2 :: A3 :: A4 :: A5 :: A6 :: A7 :: A8 :: A9 :: A10 :: A11 :: row E.sz v css :: L) R) (hr : Reps (E.rep (RoRow I)) xs css) : Rd E (big (A0 :: A1 :: A2 :: A3 :: A4 :: A5 :: A6 :: A7 :: A8 :: A9 :: A10 :: A11 :: row E.sz v css :: L) R) I v xs := Rd.of_row 12 h rfl hr
theorem St.rdrow13 {w0 w : World} {I : HL} {L : List SP} {R : SP} {A0 A1 A2 A3 A4 A5 A6 A7 A8 A9 A10 A11 A12 : SP} {α : Type} {E : Ty α} {v : Value} {xs : List α} {css : List (List Value)} (h : St w0 w I (A0 :: A1 :: A2 :: A3 :: A4 :: A5 :: A6 :: A7 :: A8 :: A9 :: A10 :: A11 :: A12 :: row E.sz v css :: L) R) (hr : Reps (E.rep (RoRow I)) xs css) : Rd E (big (A0 :: A1 :: A2 :: A3 :: A4 :: A5 :: A6 :: A7 :: A8 :: A9 :: A10 :: A11 :: A12 :: row E.sz v css :: L) R) I v xs := Rd.of_row 13 h rfl hr
theorem St.rdrow14 {w0 w : World} {I : HL} {L : List SP} {R : SP} {A0 A1 A2 A3 A4 A5 A6 A7 A8 A9 A10 A11 A12 A13 : SP} {α : Type} {E : Ty α} {v : Value} {xs : List α} {css : List (List Value)} (h : St w0 w I (A0 :: A1 :: A2 :: A3 :: A4 :: A5 :: A6 :: A7 :: A8 :: A9 :: A10 :: A11 :: A12 :: A13 :: row E.sz v css :: L) R) (hr : Reps (E.rep (RoRow I)) xs css) : Rd E (big (A0 :: A1 :: A2 :: A3 :: A4 :: A5 :: A6 :: A7 :: A8 :: A9 :: A10 :: A11 :: A12 :: A13 :: row E.sz v css :: L) R) I v xs := Rd.of_row 14 h rfl hr
theorem St.rdrow15 {w0 w : World} {I : HL} {L : List SP} {R : SP} {A0 A1 A2 A3 A4 A5 A6 A7 A8 A9 A10 A11 A12 A13 A14 : SP} {α : Type} {E : Ty α} {v : Value} {xs : List α} {css : List (List Value)} (h : St w0 w I (A0 :: A1 :: A2 :: A3 :: A4 :: A5 :: A6 :: A7 :: A8 :: A9 :: A10 :: A11 :: A12 :: A13 :: A14 :: row E.sz v css :: L) R) (hr : Reps (E.rep (RoRow I)) xs css) : Rd E (big (A0 :: A1 :: A2 :: A3 :: A4 :: A5 :: A6 :: A7 :: A8 :: A9 :: A10 :: A11 :: A12 :: A13 :: A14 :: row E.sz v css :: L) R) I v xs := Rd.of_row 15 h rfl hr
theorem St.bcs17 {w0 w : World} {I : HL} {L : List SP} {R : SP} {A0 A1 A2 A3 A4 A5 A6 A7 A8 A9 A10 A11 A12 A13 A14 A15 A16 : SP} {b : Nat} {cs vs : List Value} (h : St w0 w I (A0 :: A1 :: A2 :: A3 :: A4 :: A5 :: A6 :: A7 :: A8 :: A9 :: A10 :: A11 :: A12 :: A13 :: A14 :: A15 :: A16 :: cells b cs :: L) R) (o : Nat) (hv : (cs.drop o).take vs.length = vs) : ∀ j y, vs[j]? = some y → w.cell? ((⟨b, o, none⟩ : Addr).add j) = some y := h.boxCells 17 rfl o hv
theorem St.bcs18 {w0 w : World} {I : HL} {L : List SP} {R : SP} {A0 A1 A2 A3 A4 A5 A6 A7 A8 A9 A10 A11 A12 A13 A14 A15 A16 A17 : SP} {b : Nat} {cs vs : List Value} (h : St w0 w I (A0 :: A1 :: A2 :: A3 :: A4 :: A5 :: A6 :: A7 :: A8 :: A9 :: A10 :: A11 :: A12 :: A13 :: A14 :: A15 :: A16 :: A17 :: cells b cs :: L) R) (o : Nat) (hv : (cs.drop o).take vs.length = vs) : ∀ j y, vs[j]? = some y → w.cell? ((⟨b, o, none⟩ : Addr).add j) = some y := h.boxCells 18 rfl o hv
theorem St.keep0 {w0 w : World} {I : HL} {L : List SP} {R : SP} (h : St w0 w I (L) R) : St w0 w I [] R := h.keepL 0 rfl
theorem St.keep1 {A0 : SP} {w0 w : World} {I : HL} {L : List SP} {R : SP} (h : St w0 w I (A0 :: L) R) : St w0 w I [A0] R := h.keepL 1 rfl
theorem St.keep2 {A0 A1 : SP} {w0 w : World} {I : HL} {L : List SP} {R : SP} (h : St w0 w I (A0 :: A1 :: L) R) : St w0 w I [A0, A1] R := h.keepL 2 rfl
theorem St.keep3 {A0 A1 A2 : SP} {w0 w : World} {I : HL} {L : List SP} {R : SP} (h : St w0 w I (A0 :: A1 :: A2 :: L) R) : St w0 w I [A0, A1, A2] R := h.keepL 3 rfl
theorem St.keep4 {A0 A1 A2 A3 : SP} {w0 w : World} {I : HL} {L : List SP} {R : SP} (h : St w0 w I (A0 :: A1 :: A2 :: A3 :: L) R) : St w0 w I [A0, A1, A2, A3] R := h.keepL 4 rfl
theorem St.keep5 {A0 A1 A2 A3 A4 : SP} {w0 w : World} {I : HL} {L : List SP} {R : SP} (h : St w0 w I (A0 :: A1 :: A2 :: A3 :: A4 :: L) R) : St w0 w I [A0, A1, A2, A3, A4] R := h.keepL 5 rfl
theorem St.keep6 {A0 A1 A2 A3 A4 A5 : SP} {w0 w : World} {I : HL} {L : List SP} {R : SP} (h : St w0 w I (A0 :: A1 :: A2 :: A3 :: A4 :: A5 :: L) R) : St w0 w I [A0, A1, A2, A3, A4, A5] R := h.keepL 6 rfl
theorem St.keep8 {A0 A1 A2 A3 A4 A5 A6 A7 : SP} {w0 w : World} {I : HL} {L : List SP} {R : SP} (h : St w0 w I (A0 :: A1 :: A2 :: A3 :: A4 :: A5 :: A6 :: A7 :: L) R) : St w0 w I [A0, A1, A2, A3, A4, A5, A6, A7] R := h.keepL 8 rfl
theorem St.keep9 {A0 A1 A2 A3 A4 A5 A6 A7 A8 : SP} {w0 w : World} {I : HL} {L : List SP} {R : SP} (h : St w0 w I (A0 :: A1 :: A2 :: A3 :: A4 :: A5 :: A6 :: A7 :: A8 :: L) R) : St w0 w I [A0, A1, A2, A3, A4, A5, A6, A7, A8] R := h.keepL 9 rfl
theorem St.keep12 {A0 A1 A2 A3 A4 A5 A6 A7 A8 A9 A10 A11 : SP} {w0 w : World} {I : HL} {L : List SP} {R : SP} (h : St w0 w I (A0 :: A1 :: A2 :: A3 :: A4 :: A5 :: A6 :: A7 :: A8 :: A9 :: A10 :: A11 :: L) R) : St w0 w I [A0, A1, A2, A3, A4, A5, A6, A7, A8, A9, A10, A11] R := h.keepL 12 rfl
end Go.V
