/- From a law's contract to its row: the arguments are read, nothing of theirs is turned. Generic over the program. -/
import Derived.Test.YtijcfglomdfglaaGvSlice
import Derived.ProofKit
import Derived.OpenShut
set_option linter.unusedVariables false
set_option linter.unusedSimpArgs false
namespace Go.V
open Go Go.ChangeShapes Go.WideShapes Go.ChangeAt Go.RowKit

/-- All that a world's heap holds. -/
def hl (w : World) : HL := fun i => w.heap[i]?
theorem St.start (w : World) : St w w (hl w) [] emp := ⟨Env.refl w, fun _ _ h => h, fun _ => none, trivial, fun _ _ h => by simp at h, fun _ => .inl rfl⟩
theorem St.below {W W' : World} {I : HL} {L : List SP} {R : SP} (h : St W W' I L R) (hI : (hl W).le I) : Below W.heap.size W W' := by
  refine ⟨h.env.os, h.env.tape, h.env.output, h.env.size, fun k hk => ?_⟩
  have h1 : (hl W) k = some W.heap[k] := Array.getElem?_eq_getElem hk
  rw [h.imm _ _ (hI _ _ h1)]
  exact h1.symm

section
variable {H : Type} {enc : TypeId × Value → H} {P : Program}
theorem trodAll_below (hlo : laidOutB P = true) {W W' : World} (hb : Below W.heap.size W W') : ∀ {ts : List TypeId} {vs : List Value} {ds : List (DataW H)} {ps : List MemPlace},
    ts.all (fun t => P.readableRec t && decide (t < P.types.size)) = true → DataW.TrodAll enc P W 0 (fun _ => true) true ts vs ds ps → (∀ x ∈ ps, x.block < W.heap.size) →
    DataW.TrodAll enc P W' 0 (fun b => decide (b < W.heap.size)) true ts vs ds ps
  | [], [], [], ps, _, h, _ => h
  | t :: ts, v :: vs, d :: ds, ps, hr, h, hlt => by
    obtain ⟨p, q, h1, h2, rfl⟩ := h
    simp only [List.all_cons, Bool.and_eq_true, decide_eq_true_eq] at hr
    exact ⟨p, q, Below.trod hlo hr.1.1 hr.1.2 h1 hb (fun x hx => hlt x (by simp [hx])), trodAll_below hlo hb hr.2 h2 (fun x hx => hlt x (by simp [hx])), rfl⟩
  | [], _ :: _, _, _, _, h, _ => h.elim
  | [], [], _ :: _, _, _, h, _ => h.elim
  | _ :: _, [], _, _, _, h, _ => h.elim
  | _ :: _, _ :: _, [], _, _, h, _ => h.elim
theorem trodVars_nil {W : World} {sp : Nat → Bool} {gs : List (DataW H)} {q : List MemPlace} (h : DataW.TrodVars enc P W sp [] gs q) : gs = [] ∧ q = [] := by
  cases gs with
  | nil => exact ⟨rfl, h⟩
  | cons d ds => exact h.elim

/-- THE POST OF A LAW'S ROW: true, and all reads as it did. -/
theorem law_post {f : Func} {s : ChangeSpec} {apart fresh handsOn : Bool} {W W' : World} {args : Array Value} {ds gs : List (DataW H)} {before : List MemPlace} {tb : TypeId}
    (hW : DataW.Whole enc P f.params.toList s.vars apart W args.toList ds gs before) (hlo : laidOutB P = true)
    (hts : f.params.toList.all (fun t => P.readableRec t && decide (t < P.types.size)) = true) (hv : s.vars = [])
    (hrt : f.resultTypes = #[tb]) (hb : P.underlying tb = some .bool)
    (hfn : (s.fn H ds).results = [.lit (.bool true)] ∧ (s.fn H ds).args = ds ∧ (s.fn H ds).vars = []) (hB : Below W.heap.size W W') :
    s.post enc P f apart fresh handsOn false W args (.bool true) W' := by
  have hlt := fun p hp => hW.lt p hp
  have hW0 := hW
  obtain ⟨p, q, hA, hV, rfl, hz, hn⟩ := hW
  rw [hv] at hV
  obtain ⟨rfl, rfl⟩ := trodVars_nil hV
  refine ⟨ds, [], p ++ [], [], p, [], hW0, ?_, ?_, ?_, World.keptBut_mono (fun x hx => hx.elim) (hB.frame (fun _ => False)), fun h => by cases h⟩
  · rw [List.append_nil, hfn.1, hrt]
    refine ⟨[], [], ⟨1, ?_⟩, rfl, rfl⟩
    simp [Value.cells, DataW.trod, hb]
  · rw [List.append_nil, hfn.2.1]
    exact trodAll_below hlo hB hts hA (fun x hx => hlt x (by simp [hx]))
  · rw [List.append_nil, hfn.2.2, hv]
    rfl
end

theorem addr_add_add (a : Addr) (m n : Nat) : (a.add m).add n = a.add (m + n) := by
  unfold Addr.add
  by_cases h1 : m = 0 <;> by_cases h2 : n = 0 <;> simp [h1, h2, Nat.add_assoc]

/-! ### What an argument says -/
/-- Whatever is read at type e has the form E, and ok. -/
def Rds {α : Type} (P : Program) (W : World) (E : Ty α) (e : TypeId) (ok : α → Prop) : Prop :=
  ∀ (H : Type) (enc : TypeId × Value → H) (sp : Nat → Bool) (fuel : Nat) (cs : List Value) (y : DataW H × List MemPlace), DataW.trod enc P W 0 sp true fuel e cs = some y → ∃ x, E.rep (RoRow (hl W)) x cs ∧ ok x
section
variable {P : Program} {W : World} {e t : TypeId} {α : Type} {E : Ty α} {ok : α → Prop}
theorem rds_int {k : IntKind} (he : P.underlying e = some (.int k)) : Rds P W (tyInt k) e (fun n => (Lit.int k n).wf = true) := by
  intro H enc sp fuel cs y h
  obtain ⟨n, h1, _, h3⟩ := DataW.trod_int he h
  exact ⟨n, h1, h3⟩
theorem rds_slice (ht : P.underlying t = some (.slice e)) (hc : P.cellsOf e = E.sz) (hpos : 0 < E.sz) (he : Rds P W E e ok) : Rds P W (tySl E) t (fun xs => xs.length ≤ maxLen ∧ ∀ x ∈ xs, ok x) := by
  intro H enc sp fuel cs y h
  rcases DataW.trod_slice ht h with ⟨rfl, _⟩ | ⟨a, len, cap, elems, rest, n, rfl, rfl, _, h1, h2, h3, h4, h5, _, _⟩
  · exact ⟨[], ⟨_, rfl, ro_nil, rfl⟩, by simp, by simp⟩
  · rw [hc] at h5
    -- each element
    have hel : ∀ i, i < len → ∃ cs x, W.cells? 0 (a.add (i * E.sz)) E.sz = some cs ∧ E.rep (RoRow (hl W)) x cs ∧ ok x := by
      intro i hi
      have h6 := h5 i hi
      rw [List.getElem?_eq_getElem (by omega)] at h6
      cases hcs : W.cells? 0 (a.add (i * E.sz)) E.sz with
      | none => rw [hcs] at h6; cases h6
      | some cs =>
        rw [hcs] at h6
        obtain ⟨x, hx, hok⟩ := he H enc sp n cs _ h6
        exact ⟨cs, x, rfl, hx, hok⟩
    -- all of them
    have hall : ∀ m, m ≤ len → ∃ css xs, xs.length = m ∧ Reps (E.rep (RoRow (hl W))) xs css ∧ (∀ x ∈ xs, ok x) ∧ ∀ i cs, css[i]? = some cs → W.cells? 0 (a.add (i * E.sz)) E.sz = some cs := by
      intro m
      induction m with
      | zero => intro _; exact ⟨[], [], rfl, Reps.nil, by simp, by simp⟩
      | succ m ih =>
        intro hm
        obtain ⟨css, xs, g1, g2, g3, g4⟩ := ih (by omega)
        obtain ⟨cs, x, k1, k2, k3⟩ := hel m (by omega)
        refine ⟨css ++ [cs], xs ++ [x], by simp [g1], g2.app (Reps.one k2), ?_, ?_⟩
        · intro z hz
          rcases List.mem_append.1 hz with hz | hz
          · exact g3 z hz
          · simp at hz; subst hz; exact k3
        · intro i c hi
          have hl := g2.1
          by_cases hlt : i < css.length
          · rw [List.getElem?_append_left hlt] at hi
            exact g4 i c hi
          · rw [List.getElem?_append_right (by omega)] at hi
            have : i = m := by
              have := (List.getElem?_eq_some_iff.1 hi).1
              simp at this; omega
            subst this
            have e0 : i - css.length = 0 := by omega
            rw [e0] at hi
            simp at hi; subst hi
            exact k1
    obtain ⟨css, xs, g1, g2, g3, g4⟩ := hall len (Nat.le_refl _)
    have hlen : css.length = len := by rw [← g2.1]; exact g1
    refine ⟨xs, ⟨_, rfl, ⟨css, ⟨g2.lens, some a, cap, by rw [hlen], by rw [hlen]; exact h2, fun hne => ?_⟩, g2⟩, rfl⟩, by omega, g3⟩
    -- the block
    have h0 : 0 < css.length := List.length_pos_iff.2 hne
    have hc0 := g4 0 css[0] (List.getElem?_eq_getElem h0)
    have hcell : ∀ k x, css.flatten[k]? = some x → W.cell? (a.add k) = some x := by
      intro k x hk
      obtain ⟨i, o, cs, q1, q2, rfl⟩ := flat_split g2.lens hk
      have hcs := g4 i cs q1
      obtain ⟨_, r2, r3⟩ := World.cells?_some hcs
      have ho : o < E.sz := by
        have := (List.getElem?_eq_some_iff.1 q2).1
        rw [g2.lens cs (List.mem_of_getElem? q1)] at this
        exact this
      have := r3 o ho
      rw [q2] at this
      rw [← this]
      rw [addr_add_add]
    obtain ⟨b, off, sp'⟩ := a
    have hf0 : css.flatten[0]? = some (css[0][0]'(by rw [g2.lens _ (List.getElem_mem h0)]; exact hpos)) := by
      have := flat_get g2.lens (List.getElem?_eq_getElem h0) (o := 0) (List.getElem?_eq_getElem (by rw [g2.lens _ (List.getElem_mem h0)]; exact hpos))
      simpa using this
    have hA := hcell 0 _ hf0
    have hsp : sp' = none := by
      simp only [Addr.add, if_true, World.cell?] at hA
      cases sp' with
      | none => rfl
      | some s => revert hA; split <;> simp
    subst hsp
    cases hblk : W.heap[b]? with
    | none => simp [Addr.add, World.cell?, hblk] at hA
    | some o =>
      cases o with
      | cells c E' fr =>
        refine ⟨b, off, c, E', fr, rfl, hblk, fun k x hk => ?_⟩
        have := hcell k x hk
        rw [add_none] at this
        rwa [cell_of_blk hblk] at this
      | _ => simp [Addr.add, World.cell?, hblk] at hA
/-- An argument that is a slice. -/
theorem okWide_slice1 {base : Nat} {v : Value} (ht : P.underlying t = some (.slice e)) (h : Value.okWide P W .any base t v) : v.cells.toList = [v] := by
  simp only [Value.okWide, ht, Cell.okWide] at h
  cases v <;> simp_all [Cell.ok, Value.cells]
theorem Rds.ro {ok : List α → Prop} (h : Rds P W (tySl E) t ok) {base : Nat} {H : Type} {enc : TypeId × Value → H} {v : Value} {d : DataW H} {ps : List MemPlace} (hu : P.underlying t = some (.slice e)) (hw : Value.okWide P W .any base t v)
    (ht : DataW.Trod enc P W 0 (fun _ => true) true t v d ps) : ∃ xs, Ro E (hl W) v xs ∧ ok xs := by
  obtain ⟨fuel, h1⟩ := ht
  obtain ⟨xs, ⟨u, h2, h3, h4⟩, h5⟩ := h H enc _ fuel _ _ h1
  refine ⟨xs, ?_, h5⟩
  rw [okWide_slice1 hu hw] at h2
  simp at h2
  rw [h2]; exact h3
/-- An argument of another kind. -/
theorem Rds.val {ok : α → Prop} (h : Rds P W E t ok) {H : Type} {enc : TypeId × Value → H} {v : Value} {d : DataW H} {ps : List MemPlace}
    (ht : DataW.Trod enc P W 0 (fun _ => true) true t v d ps) : ∃ x, E.rep (RoRow (hl W)) x v.cells.toList ∧ ok x := by
  obtain ⟨fuel, h1⟩ := ht
  exact h H enc _ fuel _ _ h1
end
end Go.V
