/- Parts of slices, and more of the operations; generic over the program. -/
import Derived.Test.YtijcfglomdfglaaGvDraw
set_option linter.unusedVariables false
set_option linter.unusedSimpArgs false
namespace Go.V
open Go

/-- The value of a part of a slice. -/
def slcV (sz : Nat) (v : Value) (l h : Nat) : Value := match v with
  | .slice a n cap => .slice (if cap = l then a else a.map (·.add (l * sz))) (h - l) (cap - l)
  | v => v
/-- What lies there. -/
def subs {α : Type} (xs : List α) (l h : Int) : List α := (xs.take h.toNat).drop l.toNat

section
variable {sz l h : Nat} {css : List (List Value)} {I : HL} {R : SP} {v : Value} {w0 w : World} {L : List SP}
theorem flat_part (hl : ∀ cs ∈ css, cs.length = sz) (h1 : l ≤ css.length) {k : Nat} {x : Value} (hk : ((css.take h).drop l).flatten[k]? = some x) : css.flatten[l * sz + k]? = some x := by
  have e : css.flatten = (css.take l).flatten ++ (css.drop l).flatten := by rw [← List.flatten_append, List.take_append_drop]
  have e2 : (css.take l).flatten.length = l * sz := by
    rw [flat_len (sz := sz) fun cs hc => hl cs (List.mem_of_mem_take hc), List.length_take, Nat.min_eq_left h1]
  rw [List.drop_take] at hk
  have e3 : (css.drop l).flatten = ((css.drop l).take (h - l)).flatten ++ ((css.drop l).drop (h - l)).flatten := by rw [← List.flatten_append, List.take_append_drop]
  rw [e, e3, List.getElem?_append_right (by omega), e2, Nat.add_sub_cancel_left, List.getElem?_append_left (List.getElem?_eq_some_iff.1 hk).1]
  exact hk
theorem part_len (h1 : l ≤ h) (h2 : h ≤ css.length) : ((css.take h).drop l).length = h - l := by simp; omega
theorem part_mem {cs : List Value} (hc : cs ∈ (css.take h).drop l) : cs ∈ css := List.mem_of_mem_take (List.mem_of_mem_drop hc)
theorem part_ne (h1 : l ≤ h) (h2 : h ≤ css.length) (hne : (css.take h).drop l ≠ []) : l < h := by
  rcases Nat.lt_or_ge l h with e | e
  · exact e
  · exact absurd (List.eq_nil_of_length_eq_zero (by rw [part_len h1 h2]; omega)) hne
theorem RoRow.part (hr : RoRow I sz v css) (h1 : l ≤ h) (h2 : h ≤ css.length) : RoRow I sz (slcV sz v l h) ((css.take h).drop l) := by
  obtain ⟨g1, a, cap, rfl, g3, g4⟩ := hr
  refine ⟨fun cs hc => g1 cs (part_mem hc), if cap = l then a else a.map (·.add (l * sz)), cap - l, by rw [part_len h1 h2]; rfl, by rw [part_len h1 h2]; omega, fun hne => ?_⟩
  have hlt := part_ne h1 h2 hne
  obtain ⟨b, off, c, E, fr, rfl, h5, h6⟩ := g4 (fun e => by subst e; simp at h2; omega)
  refine ⟨b, off + l * sz, c, E, fr, ?_, h5, fun k x hk => ?_⟩
  · rw [if_neg (by omega), Option.map_some, add_none]
  · have := h6 _ _ (flat_part g1 (by omega) hk)
    rwa [← Nat.add_assoc] at this
theorem RdRow.part (hr : RdRow R I sz v css) (h1 : l ≤ h) (h2 : h ≤ css.length) : RdRow R I sz (slcV sz v l h) ((css.take h).drop l) := by
  obtain ⟨g1, a, cap, rfl, g3, g4⟩ := hr
  refine ⟨fun cs hc => g1 cs (part_mem hc), if cap = l then a else a.map (·.add (l * sz)), cap - l, by rw [part_len h1 h2]; rfl, by rw [part_len h1 h2]; omega, fun hne => ?_⟩
  have hlt := part_ne h1 h2 hne
  obtain ⟨b, off, rfl, h5⟩ := g4 (fun e => by subst e; simp at h2; omega)
  refine ⟨b, off + l * sz, ?_, fun w0 w I' L hI hst k x hk => ?_⟩
  · rw [if_neg (by omega), Option.map_some, add_none]
  · have := h5 w0 w I' L hI hst _ _ (flat_part g1 (by omega) hk)
    rwa [← Nat.add_assoc] at this
end

section
variable {α : Type} {E : Ty α} {I : HL} {R : SP} {v : Value} {xs : List α} {w0 w : World} {L : List SP} {lo hi : Int}
theorem subs_reps {r : α → List Value → Prop} {css : List (List Value)} (h : Reps r xs css) (l k : Nat) : Reps r ((xs.take k).drop l) ((css.take k).drop l) := (h.take k).drop l
theorem Ro.part (h : Ro E I v xs) (h1 : lo ≤ hi) (h2 : hi ≤ xs.length) (h0 : 0 ≤ lo) : Ro E I (slcV E.sz v lo.toNat hi.toNat) (subs xs lo hi) := by
  obtain ⟨css, g1, g2⟩ := h
  exact ⟨_, g1.part (by omega) (by rw [← g2.1]; omega), subs_reps g2 _ _⟩
theorem Rd.part (h : Rd E R I v xs) (h1 : lo ≤ hi) (h2 : hi ≤ xs.length) (h0 : 0 ≤ lo) : Rd E R I (slcV E.sz v lo.toNat hi.toNat) (subs xs lo hi) := by
  obtain ⟨css, g1, g2⟩ := h
  exact ⟨_, g1.part (by omega) (by rw [← g2.1]; omega), subs_reps g2 _ _⟩
end

/-- May such a part be asked for? -/
def fits {α : Type} (xs : List α) (lo hi : Int) : Bool := decide ((0:Int) ≤ lo) && (decide (lo ≤ hi) && decide (hi ≤ (xs.length : Int)))
theorem fits_of {α : Type} {xs : List α} {lo hi : Int} (h : fits xs lo hi = true) : 0 ≤ lo ∧ lo ≤ hi ∧ hi ≤ xs.length := by simpa [fits] using h

section
variable {P : Program} {ρ : Operand → Value} {w w' : World} {dd : Option Tmp} {ty : TypeId} {ps : String} {af : Array Edge} {g : Option (Nat × Bool)} {v x : Value} {t e : TypeId} {n sz : Nat} {lo hi : Int}
theorem run_slice (ht : P.underlying t = some (.slice e)) (hs : ∀ w, (sizeOf e).run P w = .ok sz w) (hv : SliceV v n) (h0 : 0 ≤ lo) (h1 : lo ≤ hi) (h2 : hi ≤ n) (klo khi : IntKind) (ol oh : Option Value)
    (hl : ol = some (.int klo lo) ∨ (ol = none ∧ lo = 0)) (hh : oh = some (.int khi hi) ∨ (oh = none ∧ hi = n)) :
    (Instr.slice t v ol oh none).run P w = .ok (slcV sz v lo.toNat hi.toNat) w := by
  obtain ⟨a, cap, rfl, g2, _⟩ := hv
  have hu : ∀ w : World, (underlying t).run P w = .ok (.slice e) w := fun w => by simp [underlying, ht]
  have c1 : hi ≤ (cap : Int) := by omega
  have c2 : (0:Int) ≤ hi := by omega
  have c3 : lo ≤ max hi 0 := by omega
  rcases hl with rfl | ⟨rfl, rfl⟩ <;> rcases hh with rfl | ⟨rfl, rfl⟩ <;>
    simp [Instr.slice, Instr.sliceBounds, Instr.sliceBound, asIntOf, hu, hs, Result.andThen, slcV, c1, c2, c3, h0, h1, g2]
theorem x_slice {xo : Operand} {ol oh : Option Operand} (ht : P.underlying t = some (.slice e)) (hs : ∀ w, (sizeOf e).run P w = .ok sz w) (hx : ρ xo = v) (hv : SliceV v n) (h0 : 0 ≤ lo) (h1 : lo ≤ hi) (h2 : hi ≤ n) (klo khi : IntKind)
    (hl : ol.map ρ = some (.int klo lo) ∨ (ol.map ρ = none ∧ lo = 0)) (hh : oh.map ρ = some (.int khi hi) ∨ (oh.map ρ = none ∧ hi = n)) :
    (execOp ρ ⟨dd, .slice t xo ol oh none, ty, ps, af, g⟩).run P w = .ok (.value (slcV sz v lo.toNat hi.toNat)) w := by
  have h := run_slice (P := P) (w := w) ht hs hv h0 h1 h2 klo khi (ol.map ρ) (oh.map ρ) hl hh
  refine x_val ?_
  have hu : ∀ w : World, (underlying t).run P w = .ok (.slice e) w := fun w => by simp [underlying, ht]
  simp only [Instr.sliceAt, hx, Option.map_none, h, hu, Sem.run_bind, Result.andThen]
end

/-! ### Bytes as a text -/
def sEq (x y : ByteArray) : Bool := x.toList == y.toList
def toStr (xs : List Int) : ByteArray := xs.foldl (fun s n => s.push (UInt8.ofNat n.toNat)) .empty
section
variable {P : Program} {w : World} {I : HL} {V : Value} {ys : List Int}
theorem reps_u8 {I : HL} {ys : List Int} {nss : List (List Value)} (h : Reps ((tyInt .u8).rep (RoRow I)) ys nss) : nss.flatten = ys.map (.int .u8) := by
  induction ys generalizing nss with
  | nil =>
    have : nss = [] := List.eq_nil_of_length_eq_zero h.1.symm
    subst this; rfl
  | cons y ys ih =>
    cases nss with
    | nil => have := h.1; simp at this
    | cons c nss =>
      have h0 := h.2 0 y c rfl rfl
      have h1 : Reps ((tyInt .u8).rep (RoRow I)) ys nss := ⟨by have := h.1; simp at this; exact this, fun i x cs hx hc => h.2 (i + 1) x cs (by simpa using hx) (by simpa using hc)⟩
      have h2 : c = [.int .u8 y] := h0
      simp [h2, ih h1]
theorem run_pushes (f : Value → ByteArray → Sem (ForInStep ByteArray)) (hf : ∀ y r, f (.int .u8 y) r = pure (ForInStep.yield (r.push (UInt8.ofNat y.toNat)))) : ∀ (ys : List Int) (s : ByteArray) (w : World),
    (forIn (m := Sem) (ys.map (Value.int .u8)) s f).run P w = .ok (ys.foldl (fun s n => s.push (UInt8.ofNat n.toNat)) s) w
  | [], s, w => rfl
  | y :: ys, s, w => by
    simp only [List.map_cons, List.forIn_cons, Sem.run_bind, Sem.run_pure, Result.andThen, List.foldl_cons, hf]
    exact run_pushes f hf ys _ w
theorem x_tostr {ρ : Operand → Value} {dd : Option Tmp} {ty : TypeId} {ps : String} {af : Array Edge} {g : Option (Nat × Bool)} {s d e : TypeId} {x : Operand} (hs : P.underlying s = some (.slice e)) (hd : P.underlying d = some .string) (he : P.underlying e = some (.int .u8))
    (hx : ρ x = V) (hsrc : Src (tyInt .u8) w I V ys) : (execOp ρ ⟨dd, .convert s d x, ty, ps, af, g⟩).run P w = .ok (.value (.string (toStr ys))) w := by
  refine x_val ?_
  rw [hx]
  obtain ⟨hv, nss, hr, hc⟩ := hsrc
  have hf := reps_u8 hr
  have hus : ∀ w : World, (underlying s).run P w = .ok (.slice e) w := fun w => by simp [underlying, hs]
  have hud : ∀ w : World, (underlying d).run P w = .ok .string w := fun w => by simp [underlying, hd]
  have hue : ∀ w : World, (underlying e).run P w = .ok (.int .u8) w := fun w => by simp [underlying, he]
  obtain ⟨a, cap, rfl, g2, g3⟩ := hv
  cases a with
  | none =>
    have h0 : ys = [] := by
      rcases Nat.eq_zero_or_pos ys.length with h | h
      · exact List.eq_nil_of_length_eq_zero h
      · obtain ⟨b, off, e⟩ := g3 (by omega); cases e
    subst h0
    simp only [convert, Sem.run_bind, Result.andThen, hus, hud, hue, Conv.bytesToString, Sem.run_pure]
    rfl
  | some a =>
    have hl : (loadCells a ys.length).run P w = .ok (ys.map (Value.int .u8)).toArray w := by
      have := run_loadCells_list (P := P) w a (ys.map (Value.int .u8)) (fun j y hj => by
        have hne : ys.length ≠ 0 := fun h0 => by
          have : ys = [] := List.eq_nil_of_length_eq_zero h0
          subst this; simp at hj
        obtain ⟨b, off, e⟩ := g3 hne
        cases e
        rw [add_none]
        exact hc j y (by rw [hf]; exact hj))
      simpa using this
    simp only [convert, Sem.run_bind, Result.andThen, hus, hud, hue, Conv.bytesToString, Sem.run_pure, hl, List.forIn_toArray]
    rw [run_pushes _ (fun _ _ => rfl)]
    rfl
end

/-- Branches that come together: on, or the answer. -/
def joinO {S R : Type} (c : Option (S ⊕ R)) (f : S → Option R) : Option R := c.bind fun x => match x with | .inl s => f s | .inr r => some r
theorem joinO_some {S R : Type} {c : Option (S ⊕ R)} {f : S → Option R} {r : R} (h : joinO c f = some r) : ∃ y, c = some y ∧ LR f y r := by
  obtain ⟨y, hy, h⟩ := bind_some h
  refine ⟨y, hy, ?_⟩
  cases y with
  | inl s => exact h
  | inr z => exact Option.some.inj h
/-! ### A variable's cell, of a value that is one cell -/
section
variable {P : Program} {w0 w : World} {I : HL} {L : List SP} {R : SP} {b : Nat} {cs cs' : List Value} {t : TypeId}
theorem cells_one {x : Value} (h : x.oneCell' = true) : x.cells = #[x] := by cases x <;> first | rfl | cases h
theorem St.boxStore1 (hst : St w0 w I (cells b cs :: L) R) (o : Nat) (x : Value) (h1 : x.oneCell' = true) (hs : ∀ w, (sizeOf t).run P w = .ok 1 w)
    (hl : Nat.ble (o + 1) cs.length = true) (hcs : setMany cs o [x] = cs') :
    ∃ w', (Instr.storeAt t (.pointer (some ⟨b, o, none⟩)) x).run P w = .ok () w' ∧ St w0 w' I (Go.V.cells b cs' :: L) R :=
  hst.boxStore o x (by rw [cells_one h1]; exact hs) (by rw [cells_one h1]; exact Nat.le_of_ble_eq_true hl) (by rw [cells_one h1]; intro v hv; simp at hv; subst hv; exact h1) (by rw [cells_one h1]; exact hcs)
end

/-! ### An element with slices in it, in any world of the class -/
section
variable {α : Type} {E : Ty α} {I : HL} {R : SP} {v : Value} {xs : List α} {y : α} {i : Nat}
theorem Ro.getF (h : Ro E I v xs) (hi : xs[i]? = some y) : ∃ cs, E.rep (RoRow I) y cs ∧ ∀ {w0 w : World} {L : List SP} {R : SP} {I' : HL}, I.le I' → St w0 w I' L R → ∀ o x, cs[o]? = some x → w.cell? (eAddr v (i * E.sz + o)) = some x := by
  obtain ⟨css, h1, h2⟩ := h
  obtain ⟨cs, hc, hr⟩ := h2.get hi
  exact ⟨cs, hr, fun {w0 w L R I'} hI hst o x ho => (h1.rd R).cell hI hst hc ho⟩
theorem Rd.getF (h : Rd E R I v xs) (hi : xs[i]? = some y) : ∃ cs, E.rep (RdRow R I) y cs ∧ ∀ {w0 w : World} {L : List SP} {I' : HL}, I.le I' → St w0 w I' L R → ∀ o x, cs[o]? = some x → w.cell? (eAddr v (i * E.sz + o)) = some x := by
  obtain ⟨css, h1, h2⟩ := h
  obtain ⟨cs, hc, hr⟩ := h2.get hi
  exact ⟨cs, hr, fun {w0 w L I'} hI hst o x ho => h1.cell hI hst hc ho⟩
end
section
variable {P : Program} {ρ : Operand → Value} {w : World} {d : Option Tmp} {ty : TypeId} {ps : String} {af : Array Edge} {g : Option (Nat × Bool)}
theorem x_index_arr_e {t E : TypeId} {x ix : Operand} {kd : IntKind} {i : Int} {V : Value} {N k o o' sz : Nat} (hx : ρ x = .pointer (some (eAddr V (k + o)))) (hi : ρ ix = .int kd i) (ht : P.underlying t = some (.array N E))
    (hs : ∀ w, (sizeOf E).run P w = .ok sz w) (h0 : 0 ≤ i) (h1 : i < N) (ho : o + i.toNat * sz = o') :
    (execOp ρ ⟨d, .indexAddr t x ix, ty, ps, af, g⟩).run P w = .ok (.value (.pointer (some (eAddr V (k + o'))))) w := by
  refine x_val ?_
  rw [hx, hi]
  have hu : ∀ w : World, (underlying t).run P w = .ok (.array N E) w := fun w => by simp [underlying, ht]
  simp only [Instr.indexAt, asIntOf, Sem.run_bind, Sem.run_pure, Result.andThen, hu, hs, h0, h1, and_self, if_true, Instr.sureAddr, eAddr_add, Nat.add_assoc, ho]
end

/-! ### A call of a function value, with what it has caught -/
section
variable {P : Program} {ρ : Operand → Value} {w : World} {d : Option Tmp} {ty : TypeId} {ps : String} {af : Array Edge} {g : Option (Nat × Bool)}
theorem x_callv {f : FuncId} {c : Operand} {args : List Operand} {ats : Array TypeId} {vs caps : List Value} (hc : ∀ (args : Array Value) (w : World), (callFunc f args).run P w = .ok (.enter f args) w) (hf : ρ c = .func (.func f) #[] caps.toArray) (ha : args.map ρ = vs) :
    (execOp ρ ⟨d, .call { callee := .value c, args := args.toArray, argTypes := ats }, ty, ps, af, g⟩).run P w = .ok (.enter f (vs ++ caps).toArray) w := by
  simp [execOp, resolve, Deferred.ofValue, invoke, hf, hc, ha]
end
end Go.V
