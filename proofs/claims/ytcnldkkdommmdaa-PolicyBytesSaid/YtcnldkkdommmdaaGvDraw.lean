/- A region that draws its order and acts: one walk serves every order. Generic over the program. -/
import Derived.Test.YtcnldkkdommmdaaGvGen
set_option linter.unusedVariables false
set_option linter.unusedSimpArgs false
namespace Go.V
open Go

section
variable {P : Program} {ops : Array Oper} {md : Region.Mode}

/-- u comes ahead of i in every order. -/
inductive Dep (md : Region.Mode) (ops : Array Oper) : Nat → Nat → Prop
  | here {i : Nat} {o : Oper} {e : Edge} (ho : ops[i]? = some o) (he : e ∈ o.after) (hb : Region.binds md e = true) : Dep md ops e.on i
  | more {u i : Nat} {o : Oper} {e : Edge} (ho : ops[i]? = some o) (he : e ∈ o.after) (hb : Region.binds md e = true) (h : Dep md ops u e.on) : Dep md ops u i

/-- Of each operation those that come ahead of it, bit by bit. -/
def masks (md : Region.Mode) : List Oper → List Nat → List Nat
  | [], acc => acc
  | o :: l, acc => masks md l (acc ++ [o.after.toList.foldl (fun s e => bif Region.binds md e then s ||| 2 ^ e.on ||| acc.getD e.on 0 else s) 0])
def bef (ms : List Nat) (u i : Nat) : Bool := Nat.testBit (ms.getD i 0) u
theorem foldl_mask (acc : List Nat) (es : List Edge) : ∀ (s u : Nat), Nat.testBit (es.foldl (fun s e => bif Region.binds md e then s ||| 2 ^ e.on ||| acc.getD e.on 0 else s) s) u = true →
    Nat.testBit s u = true ∨ ∃ e ∈ es, Region.binds md e = true ∧ (e.on = u ∨ Nat.testBit (acc.getD e.on 0) u = true) := by
  induction es with
  | nil => intro s u h; exact .inl h
  | cons e es ih =>
    intro s u h
    rcases ih _ u h with h | ⟨e', he', hb, h⟩
    · dsimp only at h
      cases hb : Region.binds md e with
      | false => rw [hb] at h; exact .inl h
      | true =>
        rw [hb] at h
        simp only [cond_true, Nat.testBit_or, Bool.or_eq_true] at h
        rcases h with (h | h) | h
        · exact .inl h
        · rw [Nat.testBit_two_pow] at h
          exact .inr ⟨e, by simp, hb, .inl (by simpa using h)⟩
        · exact .inr ⟨e, by simp, hb, .inr h⟩
    · exact .inr ⟨e', by simp [he'], hb, h⟩
theorem masks_sound (l : List Oper) : ∀ (k : Nat) (acc : List Nat), acc.length = k → (∀ j, l[j]? = ops[k + j]?) → (∀ i u, Nat.testBit (acc.getD i 0) u = true → Dep md ops u i) →
    ∀ i u, Nat.testBit ((masks md l acc).getD i 0) u = true → Dep md ops u i := by
  induction l with
  | nil => intro k acc _ _ h; exact h
  | cons o l ih =>
    intro k acc hk hl h
    have ho : ops[k]? = some o := by simpa using (hl 0).symm
    refine ih (k + 1) _ (by simp [hk]) (fun j => by have := hl (j + 1); simpa [Nat.add_assoc, Nat.add_comm 1 j] using this) ?_
    intro i u hi
    rw [List.getD_eq_getElem?_getD] at hi
    by_cases e : i < acc.length
    · rw [List.getElem?_append_left e, ← List.getD_eq_getElem?_getD] at hi
      exact h i u hi
    · rw [List.getElem?_append_right (by omega)] at hi
      by_cases e2 : i = k
      · subst e2
        simp only [hk, Nat.sub_self, List.getElem?_cons_zero, Option.getD_some] at hi
        rcases foldl_mask acc _ 0 u hi with h0 | ⟨ed, hed, hb, h1⟩
        · simp at h0
        · have hed' : ed ∈ o.after := by simpa using hed
          rcases h1 with rfl | h1
          · exact .here ho hed' hb
          · exact .more ho hed' hb (h _ _ h1)
      · have : ∃ m, i - acc.length = m + 1 := ⟨i - acc.length - 1, by omega⟩
        obtain ⟨m, hm⟩ := this
        rw [hm] at hi
        simp at hi
theorem bef_sound {u i : Nat} (h : bef (masks md ops.toList []) u i = true) : Dep md ops u i :=
  masks_sound (ops := ops) ops.toList 0 [] rfl (by simp) (by simp) i u h

def dstOf (ops : Array Oper) (u : Nat) : Option Tmp := (ops[u]?).bind (·.dst)
def putAll (ops : Array Oper) (a : Act) : List (Nat × Value) → Act
  | [] => a
  | (u, v) :: U => (putAll ops a U).put (dstOf ops u) v
/-- What waits is still so. -/
def PendOK (P : Program) (ops : Array Oper) (C : World → Prop) (a : Act) : List (Nat × Value) → Prop
  | [] => True
  | (u, v) :: U => (∃ o, ops[u]? = some o ∧ YieldsIn P ops C o v a) ∧ PendOK P ops C a U
theorem PendOK.get {C : World → Prop} {a : Act} : ∀ {U : List (Nat × Value)}, PendOK P ops C a U → ∀ p ∈ U, ∃ o, ops[p.1]? = some o ∧ YieldsIn P ops C o p.2 a
  | _ :: _, ⟨h, k⟩, p, hp => by
    rcases List.mem_cons.1 hp with rfl | hp
    · exact h
    · exact k.get p hp
/-- The walk. -/
def wpS (P : Program) (ops : Array Oper) (ms : List Nat) (Q : Exit → Act → World → Prop) : List (Nat × Bool) → List (Nat × Value) → Act → (World → Prop) → Prop
  | [], _, a, C => ∀ w, C w → Q .normal a w
  | (i, b) :: rest, pend, a, C => (∃ o v, ops[i]? = some o ∧ YieldsIn P ops C o v a ∧ wpS P ops ms Q rest ((i, v) :: pend) (a.put o.dst v) C) ∨
      (b = true ∧ ∃ o, ops[i]? = some o ∧ Region.wanted o (yielded ops a.tmps) = true ∧ ∀ w, C w →
      o.wp P a w (fun a' w' => ∃ C' : World → Prop, C' w' ∧ ∃ pend', pend.filter (fun p => !bef ms p.1 i) = pend' ∧ PendOK P ops C' a' pend' ∧ wpS P ops ms Q rest pend' a' C') (fun _ _ _ => False))
/-- What is asked of an operation that acts. -/
def wpE (P : Program) (ops : Array Oper) (ms : List Nat) (Q : Exit → Act → World → Prop) (i : Nat) (rest : List (Nat × Bool)) (pend : List (Nat × Value)) (a : Act) (C : World → Prop) : Prop :=
  ∃ o, ops[i]? = some o ∧ Region.wanted o (yielded ops a.tmps) = true ∧ ∀ w, C w →
      o.wp P a w (fun a' w' => ∃ C' : World → Prop, C' w' ∧ ∃ pend', pend.filter (fun p => !bef ms p.1 i) = pend' ∧ PendOK P ops C' a' pend' ∧ wpS P ops ms Q rest pend' a' C') (fun _ _ _ => False)

def looksB (ops : Array Oper) (d : Option Tmp) (i : Nat) : Bool := match d, ops[i]? with
  | some d, some o => (o.looksAt ops).contains d
  | _, _ => false
/-- What is asked of the order that is walked, of the operations' places, and of the edges. -/
def chkRest (ops : Array Oper) (ms : List Nat) : List (Nat × Bool) → Bool
  | [] => true
  | (i, b) :: rest => !looksB ops (dstOf ops i) i && rest.all (fun j => !looksB ops (dstOf ops j.1) i && j.1 != i && (!b || bef ms i j.1) && (match dstOf ops i, dstOf ops j.1 with | some d, some e => d != e | _, _ => true)
      && (!looksB ops (dstOf ops i) j.1 || bef ms i j.1)) && chkRest ops ms rest
def chk (md : Region.Mode) (ops : Array Oper) (items : List (Nat × Bool)) : Bool :=
  chkRest ops (masks md ops.toList []) items && Region.noSelect ops &&
  (List.range ops.size).all (fun i => items.any (·.1 == i)) && items.all (fun i => decide (i.1 < ops.size)) &&
  (List.range ops.size).all (fun i => match ops[i]? with | some o => o.after.all (fun e => decide (e.on < i)) | none => true)

theorem Act.put_looks {o : Oper} (hs : ∀ cs b, o.op ≠ .select cs b) (a : Act) {i : Nat} (ho : ops[i]? = some o) (d : Option Tmp) (v : Value) (h : looksB ops d i = false) :
    execOp (a.put d v).eval o = execOp a.eval o ∧ Region.wanted o (yielded ops (a.put d v).tmps) = Region.wanted o (yielded ops a.tmps) := by
  have h' : ∀ e, d = some e → e ∉ o.looksAt ops := fun e he hm => by
    subst he
    simp only [looksB, ho] at h
    have : (o.looksAt ops).contains e = true := List.contains_iff_mem.2 hm
    rw [this] at h; cases h
  exact ⟨execOp_put o hs a d v h', wanted_put o a d v h'⟩
theorem putAll_looks {o : Oper} (hs : ∀ cs b, o.op ≠ .select cs b) {i : Nat} (ho : ops[i]? = some o) (a : Act) : ∀ (U : List (Nat × Value)), (∀ p ∈ U, looksB ops (dstOf ops p.1) i = false) →
    execOp (putAll ops a U).eval o = execOp a.eval o ∧ Region.wanted o (yielded ops (putAll ops a U).tmps) = Region.wanted o (yielded ops a.tmps)
  | [], _ => ⟨rfl, rfl⟩
  | (u, v) :: U, h => by
    have h1 := putAll_looks hs ho a U (fun p hp => h p (by simp [hp]))
    have h2 := Act.put_looks (ops := ops) hs (putAll ops a U) ho (dstOf ops u) v (h (u, v) (by simp))
    exact ⟨h2.1.trans h1.1, h2.2.trans h1.2⟩
theorem putAll_put (a : Act) (d : Option Tmp) (v : Value) : ∀ (U : List (Nat × Value)), (∀ p ∈ U, ∀ e, dstOf ops p.1 = some e → d ≠ some e) → putAll ops (a.put d v) U = (putAll ops a U).put d v
  | [], _ => rfl
  | (u, x) :: U, h => by
    simp only [putAll]
    rw [putAll_put a d v U (fun p hp => h p (by simp [hp]))]
    exact (Act.put_comm _ _ _ (fun e he => h (u, x) (by simp) e he)).symm
theorem putAll_erase (a : Act) (j : Nat) (v : Value) : ∀ (U : List (Nat × Value)), (j, v) ∈ U → (U.map (·.1)).Nodup → (∀ p ∈ U, p.1 ≠ j → ∀ e, dstOf ops p.1 = some e → dstOf ops j ≠ some e) →
    putAll ops a U = putAll ops (a.put (dstOf ops j) v) (U.filter (fun p => p.1 != j))
  | (u, x) :: U, hm, hn, hd => by
    simp only [List.map_cons, List.nodup_cons] at hn
    by_cases e : u = j
    · subst e
      have hx : x = v := by
        rcases List.mem_cons.1 hm with h | h
        · cases h; rfl
        · exact absurd (List.mem_map.2 ⟨(u, v), h, rfl⟩) hn.1
      subst hx
      have hf : U.filter (fun p => p.1 != u) = U := List.filter_eq_self.2 fun p hp => by
        have : p.1 ≠ u := fun e => hn.1 (List.mem_map.2 ⟨p, hp, e⟩)
        simpa using this
      simp only [List.filter_cons, bne_self_eq_false, Bool.false_eq_true, if_false, hf, putAll]
      rw [putAll_put a (dstOf ops u) x U (fun p hp e he => hd p (by simp [hp]) (fun e => hn.1 (List.mem_map.2 ⟨p, hp, e⟩)) e he)]
    · have hm' : (j, v) ∈ U := by
        rcases List.mem_cons.1 hm with h | h
        · cases h; exact absurd rfl e
        · exact h
      have e' : (u != j) = true := by simpa using e
      simp only [List.filter_cons, e', if_true, putAll]
      rw [putAll_erase a j v U hm' hn.2 (fun p hp => hd p (by simp [hp]))]
theorem Oper.wp_anyQ {o : Oper} {a : Act} {w : World} {K : Act → World → Prop} {Q : Exit → Act → World → Prop} (h : o.wp P a w K (fun _ _ _ => False)) : o.wp P a w K Q := by
  unfold Oper.wp at *
  generalize (execOp a.eval o).run P w = r at *
  cases r with
  | ok n w' =>
    cases n <;> simp only [Oper.upon] at h ⊢ <;> try exact h
    exact Calls.mono h fun e w'' he => by
      cases e with
      | returned v => exact he
      | panicked c => exact he.elim
      | outgrown => obtain ⟨_, _, h⟩ := he; exact h.elim
  | halt x w' => cases x <;> simp only [Oper.upon] at h ⊢
theorem Oper.wp_shift {o : Oper} (hs : ∀ cs b, o.op ≠ .select cs b) {a : Act} {w : World} {K : Act → World → Prop} {d : Option Tmp} {v : Value} (hl : execOp (a.put d v).eval o = execOp a.eval o) (hd : ∀ e, d = some e → o.dst ≠ some e)
    (h : o.wp P (a.put d v) w K (fun _ _ _ => False)) : o.wp P a w (fun a' w' => K (a'.put d v) w') (fun _ _ _ => False) := by
  unfold Oper.wp at *
  rw [hl] at h
  generalize (execOp a.eval o).run P w = r at *
  cases r with
  | ok n w' =>
    cases n <;> simp only [Oper.upon] at h ⊢
    case value u => rw [← Act.put_comm a v u hd]; exact h
    case skip => rw [← Act.put_comm a v undef hd]; exact h
    case defer x => rw [← Act.put_comm _ v undef hd, ← Act.put_defers]; exact h
    case enter f args =>
      refine Calls.mono h fun e w'' he => ?_
      cases e with
      | returned u => simp only [] at he ⊢; rw [← Act.put_comm a v u hd]; exact he
      | panicked c => exact he
      | outgrown => exact he
    case row r args => exact Rows.mono h fun u w'' he => by rw [← Act.put_comm a v u hd]; exact he
  | halt x w' => cases x <;> simp only [Oper.upon] at h ⊢
theorem Oper.wp_shiftAll {o : Oper} (hs : ∀ cs b, o.op ≠ .select cs b) {i : Nat} (ho : ops[i]? = some o) {a : Act} {w : World} : ∀ (U : List (Nat × Value)) {K : Act → World → Prop}, (∀ p ∈ U, looksB ops (dstOf ops p.1) i = false) → (∀ p ∈ U, ∀ e, dstOf ops p.1 = some e → o.dst ≠ some e) →
    o.wp P (putAll ops a U) w K (fun _ _ _ => False) → o.wp P a w (fun a' w' => K (putAll ops a' U) w') (fun _ _ _ => False)
  | [], K, _, _, h => h
  | (u, v) :: U, K, h1, h2, h => by
    have h3 := Oper.wp_shift hs (Act.put_looks (ops := ops) hs (putAll ops a U) ho (dstOf ops u) v (h1 (u, v) (by simp))).1 (h2 (u, v) (by simp)) h
    exact Oper.wp_shiftAll hs ho U (fun p hp => h1 p (by simp [hp])) (fun p hp => h2 p (by simp [hp])) h3

structure Inv (P : Program) (md : Region.Mode) (ops : Array Oper) (Q : Exit → Act → World → Prop) (items : List (Nat × Bool)) (U pend : List (Nat × Value)) (a0 : Act) (C : World → Prop) (listed : Array Bool) : Prop where
  walk : wpS P ops (masks md ops.toList []) Q items pend (putAll ops a0 U) C
  mem : ∀ p ∈ U, p ∈ pend
  yields : ∀ p ∈ U, ∃ o, ops[p.1]? = some o ∧ YieldsIn P ops C o p.2 (putAll ops a0 U)
  nodup : (U.map (·.1)).Nodup
  left : ∀ j, j < ops.size → (listed.getD j true = false ↔ (j ∈ U.map (·.1) ∨ j ∈ items.map (·.1)))
  lt : (∀ p ∈ U, p.1 < ops.size) ∧ ∀ p ∈ items, p.1 < ops.size
  rest : chkRest ops (masks md ops.toList []) items = true
  clear : ∀ p ∈ U, looksB ops (dstOf ops p.1) p.1 = false ∧ ∀ j ∈ items, looksB ops (dstOf ops j.1) p.1 = false ∧ j.1 ≠ p.1 ∧ (∀ e, dstOf ops p.1 = some e → dstOf ops j.1 ≠ some e) ∧ (looksB ops (dstOf ops p.1) j.1 = true → Dep md ops p.1 j.1)
  apart : ∀ p ∈ U, ∀ q ∈ U, p.1 ≠ q.1 → (∀ e, dstOf ops p.1 = some e → dstOf ops q.1 ≠ some e) ∧ (looksB ops (dstOf ops p.1) q.1 = true → Dep md ops p.1 q.1)
  size : listed.size = ops.size
  closed : ∀ x y, Dep md ops y x → listed.getD x false = true → listed.getD y false = true

theorem chkRest_cons {ms : List Nat} {i : Nat} {b : Bool} {rest : List (Nat × Bool)} (h : chkRest ops ms ((i, b) :: rest) = true) :
    looksB ops (dstOf ops i) i = false ∧ (∀ j ∈ rest, looksB ops (dstOf ops j.1) i = false ∧ j.1 ≠ i ∧ (b = true → bef ms i j.1 = true) ∧ (∀ e, dstOf ops i = some e → dstOf ops j.1 ≠ some e) ∧ (looksB ops (dstOf ops i) j.1 = true → bef ms i j.1 = true)) ∧ chkRest ops ms rest = true := by
  simp only [chkRest, Bool.and_eq_true, List.all_eq_true] at h
  obtain ⟨⟨h1, h2⟩, h3⟩ := h
  refine ⟨by simpa using h1, fun j hj => ?_, h3⟩
  obtain ⟨⟨⟨⟨g1, g2⟩, g3⟩, g4⟩, g5⟩ := h2 j hj
  refine ⟨by simpa using g1, by simpa using g2, fun hb => by simpa [hb] using g3, fun e he hc => ?_, fun hl => by simpa [hl] using g5⟩
  rw [he, hc] at g4
  simp at g4
theorem getD_true_false {l : Array Bool} {j : Nat} (h : j < l.size) : l.getD j true = l.getD j false := by
  simp [Array.getD, h]
/-- An operation that only yields is walked, whether it has been carried out or not. -/
theorem Inv.adv {Q : Exit → Act → World → Prop} : ∀ (items : List (Nat × Bool)) {U pend : List (Nat × Value)} {a0 : Act} {C : World → Prop} {listed : Array Bool} (hsel : Region.noSelect ops = true), Inv P md ops Q items U pend a0 C listed →
    ∃ items' U' pend', Inv P md ops Q items' U' pend' a0 C listed ∧ items'.length + U'.length = items.length + U.length ∧ (items' = [] ∨ ∃ i r, items' = (i, true) :: r ∧ wpE P ops (masks md ops.toList []) Q i r pend' (putAll ops a0 U') C)
  | [], U, pend, a0, C, listed, _, h => ⟨[], U, pend, h, rfl, .inl rfl⟩
  | (i, b) :: r, U, pend, a0, C, listed, hsel, h => by
    rcases h.walk with ⟨o, v, ho, hy, hw⟩ | ⟨rfl, hE⟩
    case inr => exact ⟨_, U, pend, h, rfl, .inr ⟨i, r, rfl, hE⟩⟩
    obtain ⟨c1, c2, c3⟩ := chkRest_cons h.rest
    have hdst : o.dst = dstOf ops i := by simp [dstOf, ho]
    have hso := fun cs b => Region.noSelect_spec hsel i o cs b ho
    have hiU : i ∉ U.map (·.1) := fun hm => by
      obtain ⟨p, hp, rfl⟩ := List.mem_map.1 hm
      exact ((h.clear p hp).2 (p.1, b) (by simp)).2.1 rfl
    have key : Inv P md ops Q r ((i, v) :: U) ((i, v) :: pend) a0 C listed := by
      refine { walk := by rw [hdst] at hw; exact hw, mem := ?_, yields := ?_, nodup := by simp only [List.map_cons, List.nodup_cons]; exact ⟨hiU, h.nodup⟩, left := ?_, lt := ?_, rest := c3, clear := ?_, apart := ?_, size := h.size, closed := h.closed }
      · intro p hp
        rcases List.mem_cons.1 hp with rfl | hp
        · simp
        · exact List.mem_cons_of_mem _ (h.mem p hp)
      · intro p hp
        rcases List.mem_cons.1 hp with rfl | hp
        · obtain ⟨e1, e2⟩ := Act.put_looks (ops := ops) hso (putAll ops a0 U) ho (dstOf ops i) v c1
          exact ⟨o, ho, hy.of_same e1 e2⟩
        · obtain ⟨op, hop, hyp⟩ := h.yields p hp
          have hsp := fun cs b => Region.noSelect_spec hsel p.1 op cs b hop
          obtain ⟨e1, e2⟩ := Act.put_looks (ops := ops) hsp (putAll ops a0 U) hop (dstOf ops i) v ((h.clear p hp).2 (i, b) (by simp)).1
          exact ⟨op, hop, hyp.of_same e1 e2⟩
      · intro j hj
        rw [h.left j hj]
        simp only [List.map_cons, List.mem_cons]
        constructor
        · rintro (h1 | h1 | h1)
          · exact .inl (.inr h1)
          · exact .inl (.inl h1)
          · exact .inr h1
        · rintro ((h1 | h1) | h1)
          · exact .inr (.inl h1)
          · exact .inl h1
          · exact .inr (.inr h1)
      · refine ⟨fun p hp => ?_, fun p hp => h.lt.2 p (by simp [hp])⟩
        rcases List.mem_cons.1 hp with rfl | hp
        · exact h.lt.2 (i, b) (by simp)
        · exact h.lt.1 p hp
      · intro p hp
        rcases List.mem_cons.1 hp with rfl | hp
        · exact ⟨c1, fun j hj => ⟨(c2 j hj).1, (c2 j hj).2.1, (c2 j hj).2.2.2.1, fun hl => bef_sound ((c2 j hj).2.2.2.2 hl)⟩⟩
        · exact ⟨(h.clear p hp).1, fun j hj => (h.clear p hp).2 j (by simp [hj])⟩
      · intro p hp q hq hne
        rcases List.mem_cons.1 hp with rfl | hp <;> rcases List.mem_cons.1 hq with rfl | hq
        · exact absurd rfl hne
        · have hc := (h.clear q hq).2 (i, b) (by simp)
          exact ⟨fun e he hc' => hc.2.2.1 e hc' he, fun hl => by rw [hc.1] at hl; cases hl⟩
        · have hc := (h.clear p hp).2 (i, b) (by simp)
          exact ⟨hc.2.2.1, hc.2.2.2⟩
        · exact h.apart p hp q hq hne
    obtain ⟨items', U', pend', h1, h2, h3⟩ := Inv.adv r hsel key
    exact ⟨items', U', pend', h1, by rw [h2]; simp; omega, h3⟩

theorem closed_set {listed : Array Bool} {j : Nat} (hsz : listed.size = ops.size) (hj : j ∈ Region.ready md ops listed) (hc : ∀ x y, Dep md ops y x → listed.getD x false = true → listed.getD y false = true) :
    ∀ x y, Dep md ops y x → (listed.setIfInBounds j true).getD x false = true → (listed.setIfInBounds j true).getD y false = true := by
  intro x y hd hx
  by_cases e : j = x
  · subst e
    obtain ⟨_, o, ho, hall⟩ := mem_ready.1 hj
    cases hd with
    | here ho' he hb => rw [ho] at ho'; cases ho'; exact getD_set_true (hall _ he hb)
    | more ho' he hb h => rw [ho] at ho'; cases ho'; exact getD_set_true (hc _ _ h (hall _ he hb))
  · rw [getD_set_ne false e] at hx
    exact getD_set_true (hc x y hd hx)
theorem ready_deps {listed : Array Bool} {j u : Nat} (hj : j ∈ Region.ready md ops listed) (hc : ∀ x y, Dep md ops y x → listed.getD x false = true → listed.getD y false = true) (hd : Dep md ops u j) : listed.getD u false = true := by
  obtain ⟨_, o, ho, hall⟩ := mem_ready.1 hj
  cases hd with
  | here ho' he hb => rw [ho] at ho'; cases ho'; exact hall _ he hb
  | more ho' he hb h => rw [ho] at ho'; cases ho'; exact hc _ _ h (hall _ he hb)
theorem ready_some {listed : Array Bool} (hlex : ∀ (i : Nat) (o : Oper), ops[i]? = some o → ∀ e ∈ o.after, e.on < i) (hsz : listed.size = ops.size) : ∀ (n j : Nat), j ≤ n → j < ops.size → listed.getD j true = false → Region.ready md ops listed ≠ []
  | n, j, hn, hj, hu => by
    by_cases h : ∃ k, k < j ∧ listed.getD k true = false
    · obtain ⟨k, hk, hku⟩ := h
      cases n with
      | zero => omega
      | succ n => exact ready_some hlex hsz n k (by omega) (by omega) hku
    · intro hr
      have : j ∈ Region.ready md ops listed := by
        refine mem_ready.2 ⟨hu, ops[j], Array.getElem?_eq_getElem hj, fun e he hb => ?_⟩
        have hlt := hlex j _ (Array.getElem?_eq_getElem hj) e he
        cases hg : listed.getD e.on true with
        | false => exact absurd ⟨_, hlt, hg⟩ h
        | true => rw [← getD_true_false (by omega)]; exact hg
      rw [hr] at this; cases this

theorem any_of_inv {Q : Exit → Act → World → Prop} (hsel : Region.noSelect ops = true) (hlex : ∀ (i : Nat) (o : Oper), ops[i]? = some o → ∀ e ∈ o.after, e.on < i) : ∀ (fuel : Nat) (items : List (Nat × Bool)) (U pend : List (Nat × Value)) (a0 : Act) (C : World → Prop) (listed : Array Bool) (w : World),
    Inv P md ops Q items U pend a0 C listed → C w → items.length + U.length ≤ fuel → wpAny P md ops Q fuel listed a0 w := by
  intro fuel
  induction fuel with
  | zero =>
    intro items U pend a0 C listed w h hw hl
    have hi : items = [] := List.eq_nil_of_length_eq_zero (by omega)
    have hU : U = [] := List.eq_nil_of_length_eq_zero (by omega)
    subst hi; subst hU
    refine ⟨?_, h.walk w hw⟩
    cases hr : Region.ready md ops listed with
    | nil => rfl
    | cons j l =>
      have hj : j ∈ Region.ready md ops listed := by rw [hr]; simp
      obtain ⟨hu, o, ho, _⟩ := mem_ready.1 hj
      have := (h.left j (Array.getElem?_eq_some_iff.1 ho).1).1 hu
      simp at this
  | succ fuel ih =>
    intro items U pend a0 C listed w h0 hw hl
    obtain ⟨items', U', pend', h, hlen, hhead⟩ := h0.adv items hsel
    rw [← hlen] at hl
    clear h0 hlen
    refine ⟨fun hr => ?_, fun j hj => ?_⟩
    · -- nothing is left
      have hnone : ∀ j, j < ops.size → listed.getD j true ≠ false := fun j hj hu => ready_some hlex h.size j j (Nat.le_refl _) hj hu hr
      have hi : items' = [] := by
        cases items' with
        | nil => rfl
        | cons p r => exact absurd ((h.left p.1 (h.lt.2 p (by simp))).2 (.inr (by simp))) (hnone _ (h.lt.2 p (by simp)))
      have hU : U' = [] := by
        cases U' with
        | nil => rfl
        | cons p r => exact absurd ((h.left p.1 (h.lt.1 p (by simp))).2 (.inl (by simp))) (hnone _ (h.lt.1 p (by simp)))
      subst hi; subst hU
      exact h.walk w hw
    · obtain ⟨hun, oj, hoj, hall⟩ := mem_ready.1 hj
      have hjlt := (Array.getElem?_eq_some_iff.1 hoj).1
      have hsj := fun cs b => Region.noSelect_spec hsel j oj cs b hoj
      have unl : ∀ u, u < ops.size → listed.getD u true = false → ¬ Dep md ops u j := fun u hu hun' hd => by
        have := ready_deps hj h.closed hd
        rw [← getD_true_false (by rw [h.size]; exact hu), hun'] at this; cases this
      have hUunl : ∀ p ∈ U', listed.getD p.1 true = false := fun p hp => (h.left p.1 (h.lt.1 p hp)).2 (.inl (List.mem_map.2 ⟨p, hp, rfl⟩))
      have left' : ∀ (V : List (Nat × Value)) (r : List (Nat × Bool)), (∀ k, k < ops.size → k ≠ j → ((k ∈ U'.map (·.1) ∨ k ∈ items'.map (·.1)) ↔ (k ∈ V.map (·.1) ∨ k ∈ r.map (·.1)))) → (¬ (j ∈ V.map (·.1) ∨ j ∈ r.map (·.1))) →
          ∀ k, k < ops.size → ((listed.setIfInBounds j true).getD k true = false ↔ (k ∈ V.map (·.1) ∨ k ∈ r.map (·.1))) := by
        intro V r h1 h2 k hk
        by_cases e : j = k
        · subst e
          have : (listed.setIfInBounds j true).getD j true = true := by simp [h.size, hjlt]
          rw [this]
          exact ⟨fun h => (by cases h), fun h => absurd h h2⟩
        · rw [getD_set_ne true e, h.left k hk]
          exact h1 k hk (fun e' => e e'.symm)
      rcases (h.left j hjlt).1 hun with hjU | hjI
      · -- it was walked already
        obtain ⟨⟨j', v⟩, hp, rfl⟩ := List.mem_map.1 hjU
        obtain ⟨o, ho, hy⟩ := h.yields (j', v) hp
        simp only at ho hy hoj hjlt hsj unl hj left' hun hall hjU ⊢
        rw [hoj] at ho; cases ho
        have hno : ∀ p ∈ U', looksB ops (dstOf ops p.1) j' = false := fun p hp' => by
          cases hb : looksB ops (dstOf ops p.1) j' with
          | false => rfl
          | true =>
            by_cases e : p.1 = j'
            · rw [e] at hb; rw [(h.clear (j', v) hp).1] at hb; cases hb
            · exact absurd ((h.apart p hp' (j', v) hp e).2 hb) (unl p.1 (h.lt.1 p hp') (hUunl p hp'))
        obtain ⟨e1, e2⟩ := putAll_looks hsj hoj a0 U' hno
        have hy0 : YieldsIn P ops C oj v a0 := hy.of_same e1.symm e2.symm
        have hdst : oj.dst = dstOf ops j' := by simp [dstOf, hoj]
        have her := putAll_erase (ops := ops) a0 j' v U' hp h.nodup (fun p hp' hne e he => (h.apart p hp' (j', v) hp hne).1 e he)
        have hlenU : (U'.filter (fun p => p.1 != j')).length < U'.length := by
          refine List.length_filter_lt_length_iff_exists.2 ⟨(j', v), hp, by simp⟩
        refine wpOp_of_qOp (K := fun a => ∀ w', C w' → wpAny P md ops Q fuel (listed.setIfInBounds j' true) a w') hw (fun a w' hw' hk => hk w' hw') (hy0.qOp hoj ?_)
        intro w' hw'
        refine ih items' (U'.filter (fun p => p.1 != j')) pend' (a0.put oj.dst v) C _ w' ?_ hw' (by omega)
        rw [hdst]
        refine { walk := her ▸ h.walk, mem := fun p hp' => h.mem p (List.mem_filter.1 hp').1, yields := fun p hp' => ?_, nodup := ?_, left := ?_, lt := ⟨fun p hp' => h.lt.1 p (List.mem_filter.1 hp').1, h.lt.2⟩, rest := h.rest, clear := fun p hp' => h.clear p (List.mem_filter.1 hp').1, apart := fun p hp' q hq' => h.apart p (List.mem_filter.1 hp').1 q (List.mem_filter.1 hq').1, size := by simpa using h.size, closed := closed_set h.size hj h.closed }
        · rw [← her]; exact h.yields p (List.mem_filter.1 hp').1
        · exact h.nodup.sublist (List.filter_sublist.map _)
        · refine left' _ _ (fun k hk hne => ?_) ?_
          · simp only [List.mem_map, List.mem_filter]
            constructor
            · rintro (⟨p, hp', rfl⟩ | h1)
              · exact .inl ⟨p, ⟨hp', by simpa using hne⟩, rfl⟩
              · exact .inr h1
            · rintro (⟨p, ⟨hp', _⟩, rfl⟩ | h1)
              · exact .inl ⟨p, hp', rfl⟩
              · exact .inr h1
          · rintro (h1 | h1)
            · obtain ⟨p, hp', e⟩ := List.mem_map.1 h1
              have := (List.mem_filter.1 hp').2
              simp [e] at this
            · obtain ⟨p, hp', e⟩ := List.mem_map.1 h1
              exact ((h.clear (j', v) hp).2 p hp').2.1 e
      · -- it is the next one that acts
        rcases hhead with rfl | ⟨e, r, rfl, hE⟩
        · simp at hjI
        · obtain ⟨c1, c2, c3⟩ := chkRest_cons h.rest
          have hje : j = e := by
            simp only [List.map_cons, List.mem_cons] at hjI
            rcases hjI with h1 | h1
            · exact h1
            · obtain ⟨p, hp, rfl⟩ := List.mem_map.1 h1
              exact absurd (bef_sound ((c2 p hp).2.2.1 rfl)) (unl e (h.lt.2 (e, true) (by simp)) ((h.left e (h.lt.2 (e, true) (by simp))).2 (.inr (by simp))))
          subst hje
          obtain ⟨o, ho, hwant, hwp⟩ := hE
          rw [hoj] at ho; cases ho
          have hnoD : ∀ p ∈ U', ¬ Dep md ops p.1 j := fun p hp => unl p.1 (h.lt.1 p hp) (hUunl p hp)
          have hno : ∀ p ∈ U', looksB ops (dstOf ops p.1) j = false := fun p hp => by
            cases hb : looksB ops (dstOf ops p.1) j with
            | false => rfl
            | true => exact absurd (((h.clear p hp).2 (j, true) (by simp)).2.2.2 hb) (hnoD p hp)
          have hdst : oj.dst = dstOf ops j := by simp [dstOf, hoj]
          have hnd : ∀ p ∈ U', ∀ e, dstOf ops p.1 = some e → oj.dst ≠ some e := fun p hp e he => by rw [hdst]; exact ((h.clear p hp).2 (j, true) (by simp)).2.2.1 e he
          have h1 := Oper.wp_shiftAll hsj hoj U' hno hnd (hwp w hw)
          have h2 := Oper.wp_anyQ (Q := Q) h1
          have hw0 : Region.wanted oj (yielded ops a0.tmps) = true := by rw [← (putAll_looks hsj hoj a0 U' hno).2]; exact hwant
          unfold wpOp
          simp only [hoj, hw0, if_true]
          refine .inl (Oper.wp_mono (fun a' w' hk => ?_) h2)
          obtain ⟨C', hC', pend2, hpend, hok, hwalk⟩ := hk
          refine ih r U' pend2 a' C' _ w' ?_ hC' (by simp at hl; omega)
          have hmem : ∀ p ∈ U', p ∈ pend2 := fun p hp => by
            rw [← hpend]
            refine List.mem_filter.2 ⟨h.mem p hp, ?_⟩
            cases hb : bef (masks md ops.toList []) p.1 j with
            | false => rfl
            | true => exact absurd (bef_sound hb) (hnoD p hp)
          refine { walk := hwalk, mem := hmem, yields := fun p hp => hok.get p (hmem p hp), nodup := h.nodup, left := ?_, lt := ⟨h.lt.1, fun p hp => h.lt.2 p (by simp [hp])⟩, rest := c3, clear := fun p hp => ⟨(h.clear p hp).1, fun q hq => (h.clear p hp).2 q (by simp [hq])⟩, apart := h.apart, size := by simpa using h.size, closed := closed_set h.size hj h.closed }
          refine left' _ _ (fun k hk hne => ?_) ?_
          · simp only [List.map_cons, List.mem_cons]
            constructor
            · rintro (h1 | h1 | h1)
              · exact .inl h1
              · exact absurd h1 hne
              · exact .inr h1
            · rintro (h1 | h1)
              · exact .inl h1
              · exact .inr (.inr h1)
          · rintro (h1 | h1)
            · obtain ⟨p, hp, e⟩ := List.mem_map.1 h1
              exact ((h.clear p hp).2 (j, true) (by simp)).2.1 e.symm
            · obtain ⟨p, hp, e⟩ := List.mem_map.1 h1
              exact (c2 p hp).2.1 e

/-- A REGION THAT DRAWS ITS ORDER, AND ACTS. -/
theorem wp_region_S {id : Nat} {l : List Oper} {a : Act} {w : World} {Q : Exit → Act → World → Prop} (items : List (Nat × Bool)) (hm : P.follows .mixedOrders = true) (hc : chk .any l.toArray items = true) (hn : items.length ≤ l.length) (C : World → Prop) (hC : C { w with drawn := w.drawn + 1 })
    (h : wpS P l.toArray (masks .any l []) Q items [] a C) : (Code.region id l.toArray true).wp P Q a w := by
  simp only [chk, Bool.and_eq_true, List.all_eq_true, List.mem_range] at hc
  obtain ⟨⟨⟨⟨c1, c2⟩, c3⟩, c4⟩, c5⟩ := hc
  have hlex : ∀ (i : Nat) (o : Oper), l.toArray[i]? = some o → ∀ e ∈ o.after, e.on < i := fun i o ho e he => by
    have := c5 i (Array.getElem?_eq_some_iff.1 ho).1
    rw [ho] at this
    simp only [Array.all_eq_true_iff_forall_mem] at this
    simpa using this e he
  refine wp_region_any hm (any_of_inv c2 hlex l.toArray.size items [] [] a C _ _ ?_ hC (by simpa using hn))
  refine { walk := h, mem := by simp, yields := by simp, nodup := by simp, left := ?l, lt := ⟨by simp, fun p hp => by simpa using c4 p hp⟩, rest := c1, clear := by simp, apart := by simp, size := by simp, closed := fun x y _ hx => ?c }
  case l =>
    intro j hj
    have h1 : (Array.replicate l.toArray.size false).getD j true = false := by
      have : j < l.length := by simpa using hj
      simp [this]
    rw [h1]
    have h2 := c3 j hj
    simp only [List.any_eq_true] at h2
    obtain ⟨p, hp, e⟩ := h2
    have e' : p.1 = j := by simpa using e
    exact ⟨fun _ => Or.inr (List.mem_map.2 ⟨p, hp, e'⟩), fun _ => rfl⟩
  case c =>
    exfalso
    by_cases hx2 : x < l.length <;> simp [hx2] at hx
end

/-! ### The walk, in frames -/
section
variable {P : Program} {l : List Oper} {ms : List Nat} {Q : Exit → Act → World → Prop} {rest : List (Nat × Bool)} {pend pend' : List (Nat × Value)} {N : Nat} {σ : Nat → Value} {i d : Nat} {b : Bool} {o : Oper} {v : Value} {C : World → Prop}
theorem ops_at (h : l[i]? = some o) : l.toArray[i]? = some o := by simpa using h
theorem yi_run (hw : Region.wanted o (yielded l.toArray (Fr N σ).tmps) = true) (h : ∀ w, C w → (execOp (ev N σ) o).run P w = .ok (.value v) w) : YieldsIn P l.toArray C o v (Fr N σ) := by
  refine .inl ⟨hw, fun w hC => ?_⟩
  unfold Oper.quietAt
  rw [eval_Fr, h w hC]
  exact ⟨rfl, rfl⟩
theorem yi_call {f : FuncId} {args : Array Value} (hw : Region.wanted o (yielded l.toArray (Fr N σ).tmps) = true) (h : ∀ w, (execOp (ev N σ) o).run P w = .ok (.enter f args) w)
    (hc : ∀ w, C w → Calls P f args w fun e w' => e = .returned v ∧ C w') : YieldsIn P l.toArray C o v (Fr N σ) := by
  refine .inl ⟨hw, fun w hC => ?_⟩
  unfold Oper.quietAt
  rw [eval_Fr, h w]
  exact ⟨rfl, hc w hC⟩
theorem yi_off (hw : Region.wanted o (yielded l.toArray (Fr N σ).tmps) = false) : YieldsIn P l.toArray C o undef (Fr N σ) := .inr ⟨hw, rfl⟩
theorem ws_q (ho : l[i]? = some o) (hd : o.dst = some d) (hy : YieldsIn P l.toArray C o v (Fr N σ)) (h : wpS P l.toArray ms Q rest ((i, v) :: pend) (Fr N (upd σ d v)) C) :
    wpS P l.toArray ms Q ((i, b) :: rest) pend (Fr N σ) C := .inl ⟨o, v, ops_at ho, hy, by rw [hd, put_Fr]; exact h⟩
theorem ws_q0 (ho : l[i]? = some o) (hd : o.dst = none) (hy : YieldsIn P l.toArray C o v (Fr N σ)) (h : wpS P l.toArray ms Q rest ((i, v) :: pend) (Fr N σ) C) :
    wpS P l.toArray ms Q ((i, b) :: rest) pend (Fr N σ) C := .inl ⟨o, v, ops_at ho, hy, by rw [hd]; exact h⟩
theorem ws_nil (h : ∀ w, C w → Q .normal (Fr N σ) w) : wpS P l.toArray ms Q [] pend (Fr N σ) C := h
/-- What has to be shown once an operation has acted. -/
def Nx (P : Program) (l : List Oper) (ms : List Nat) (Q : Exit → Act → World → Prop) (i : Nat) (rest : List (Nat × Bool)) (pend : List (Nat × Value)) (a' : Act) (w' : World) : Prop :=
  ∃ C' : World → Prop, C' w' ∧ ∃ pend', pend.filter (fun p => !bef ms p.1 i) = pend' ∧ PendOK P l.toArray C' a' pend' ∧ wpS P l.toArray ms Q rest pend' a' C'
theorem ws_e (ho : l[i]? = some o) (hw : Region.wanted o (yielded l.toArray (Fr N σ).tmps) = true) (h : ∀ w, C w → o.wp P (Fr N σ) w (Nx P l ms Q i rest pend) (fun _ _ _ => False)) :
    wpS P l.toArray ms Q ((i, true) :: rest) pend (Fr N σ) C := .inr ⟨rfl, o, ops_at ho, hw, h⟩
variable {w w' : World} {K : Act → World → Prop}
theorem we_run (hd : o.dst = some d) (h : (execOp (ev N σ) o).run P w = .ok (.value v) w') (k : K (Fr N (upd σ d v)) w') : o.wp P (Fr N σ) w K (fun _ _ _ => False) := by
  unfold Oper.wp
  rw [eval_Fr, h, Oper.upon_value, hd, put_Fr]
  exact k
theorem we_unit (hd : o.dst = none) (h : (execOp (ev N σ) o).run P w = .ok .skip w') (k : K (Fr N σ) w') : o.wp P (Fr N σ) w K (fun _ _ _ => False) := by
  unfold Oper.wp
  rw [eval_Fr, h, Oper.upon_skip, hd]
  exact k
theorem we_call {f : FuncId} {args : Array Value} (hd : o.dst = some d) (h : (execOp (ev N σ) o).run P w = .ok (.enter f args) w)
    (k : Calls P f args w fun e w' => ∃ v, e = .returned v ∧ K (Fr N (upd σ d v)) w') : o.wp P (Fr N σ) w K (fun _ _ _ => False) := by
  unfold Oper.wp
  rw [eval_Fr, h, Oper.upon_enter]
  refine k.mono fun e w' he => ?_
  obtain ⟨v, rfl, hk⟩ := he
  simp only [hd, put_Fr]
  exact hk
theorem ws_next {w0 : World} {I : HL} {L : List SP} {R : SP} {a' : Act} (hst : St w0 w' I L R) (hf : pend.filter (fun p => !bef ms p.1 i) = pend') (hp : PendOK P l.toArray (fun w => St w0 w I L R) a' pend')
    (h : wpS P l.toArray ms Q rest pend' a' (fun w => St w0 w I L R)) : Nx P l ms Q i rest pend a' w' := ⟨_, hst, pend', hf, hp, h⟩
theorem pk_nil {a : Act} : PendOK P l.toArray C a [] := trivial
theorem pk_cons {U : List (Nat × Value)} (ho : l[i]? = some o) (hy : YieldsIn P l.toArray C o v (Fr N σ)) (h : PendOK P l.toArray C (Fr N σ) U) : PendOK P l.toArray C (Fr N σ) ((i, v) :: U) := ⟨⟨o, ops_at ho, hy⟩, h⟩
theorem wp_region_St {id : Nat} {w0 : World} {I : HL} {L : List SP} {R : SP} (hst : St w0 w I L R) (items : List (Nat × Bool)) (hm : P.follows .mixedOrders = true) (hc : chk .any l.toArray items = true) (hn : items.length ≤ l.length)
    (h : wpS P l.toArray (masks .any l []) Q items [] (Fr N σ) (fun w => St w0 w I L R)) : (Code.region id l.toArray true).wp P Q (Fr N σ) w :=
  wp_region_S items hm hc hn _ (hst.drawn _) h
end
end Go.V
