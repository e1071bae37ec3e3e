/- A region that draws its order and acts: one walk serves every order. Generic over the program. -/
import Derived.Test.YtijcfglomdfglaaGvGen
set_option linter.unusedVariables false
set_option linter.unusedSimpArgs false
namespace Go.V
open Go

section
variable {P : Program} {ops : Array Oper} {md : Region.Mode}

/-- u comes ahead of i in every order. -/
inductive Dep (md : Region.Mode) (ops : Array Oper) : Nat → Nat → Prop
  | here {i : Nat} {o : Oper} {e : Edge} (ho : ops[i]? = some o) (he : e ∈ o.after) (hb : Region.binds md e = true) : Dep md ops e.on i
  | more {u i : Nat} {o : Oper} {e : Edge} (ho : ops[i]? = some o) (he : e ∈ o.after) (hb : Region.binds md e = true) (h : Dep md ops u e.on) : Dep md ops u i

/-- Of each operation those that come ahead of it, bit by bit. -/
def masks (md : Region.Mode) : List Oper → List Nat → List Nat
  | [], acc => acc
  | o :: l, acc => masks md l (acc ++ [o.after.toList.foldl (fun s e => bif Region.binds md e then s ||| 2 ^ e.on ||| acc.getD e.on 0 else s) 0])
def bef (ms : List Nat) (u i : Nat) : Bool := Nat.testBit (ms.getD i 0) u
theorem foldl_mask (acc : List Nat) (es : List Edge) : ∀ (s u : Nat), Nat.testBit (es.foldl (fun s e => bif Region.binds md e then s ||| 2 ^ e.on ||| acc.getD e.on 0 else s) s) u = true →
    Nat.testBit s u = true ∨ ∃ e ∈ es, Region.binds md e = true ∧ (e.on = u ∨ Nat.testBit (acc.getD e.on 0) u = true) := by
  induction es with
  | nil => intro s u h; exact .inl h
  | cons e es ih =>
    intro s u h
    rcases ih _ u h with h | ⟨e', he', hb, h⟩
    · dsimp only at h
      cases hb : Region.binds md e with
      | false => rw [hb] at h; exact .inl h
      | true =>
        rw [hb] at h
        simp only [cond_true, Nat.testBit_or, Bool.or_eq_true] at h
        rcases h with (h | h) | h
        · exact .inl h
        · rw [Nat.testBit_two_pow] at h
          exact .inr ⟨e, by simp, hb, .inl (by simpa using h)⟩
        · exact .inr ⟨e, by simp, hb, .inr h⟩
    · exact .inr ⟨e', by simp [he'], hb, h⟩
theorem masks_sound (l : List Oper) : ∀ (k : Nat) (acc : List Nat), acc.length = k → (∀ j, l[j]? = ops[k + j]?) → (∀ i u, Nat.testBit (acc.getD i 0) u = true → Dep md ops u i) →
    ∀ i u, Nat.testBit ((masks md l acc).getD i 0) u = true → Dep md ops u i := by
  induction l with
  | nil => intro k acc _ _ h; exact h
  | cons o l ih =>
    intro k acc hk hl h
    have ho : ops[k]? = some o := by simpa using (hl 0).symm
    refine ih (k + 1) _ (by simp [hk]) (fun j => by have := hl (j + 1); simpa [Nat.add_assoc, Nat.add_comm 1 j] using this) ?_
    intro i u hi
    rw [List.getD_eq_getElem?_getD] at hi
    by_cases e : i < acc.length
    · rw [List.getElem?_append_left e, ← List.getD_eq_getElem?_getD] at hi
      exact h i u hi
    · rw [List.getElem?_append_right (by omega)] at hi
      by_cases e2 : i = k
      · subst e2
        simp only [hk, Nat.sub_self, List.getElem?_cons_zero, Option.getD_some] at hi
        rcases foldl_mask acc _ 0 u hi with h0 | ⟨ed, hed, hb, h1⟩
        · simp at h0
        · have hed' : ed ∈ o.after := by simpa using hed
          rcases h1 with rfl | h1
          · exact .here ho hed' hb
          · exact .more ho hed' hb (h _ _ h1)
      · have : ∃ m, i - acc.length = m + 1 := ⟨i - acc.length - 1, by omega⟩
        obtain ⟨m, hm⟩ := this
        rw [hm] at hi
        simp at hi
theorem bef_sound {u i : Nat} (h : bef (masks md ops.toList []) u i = true) : Dep md ops u i :=
  masks_sound (ops := ops) ops.toList 0 [] rfl (by simp) (by simp) i u h

def dstOf (ops : Array Oper) (u : Nat) : Option Tmp := (ops[u]?).bind (·.dst)
def putAll (ops : Array Oper) (a : Act) : List (Nat × Value) → Act
  | [] => a
  | (u, v) :: U => (putAll ops a U).put (dstOf ops u) v
/-- What waits is still so. -/
def PendOK (P : Program) (ops : Array Oper) (C : World → Prop) (a : Act) : List (Nat × Value) → Prop
  | [] => True
  | (u, v) :: U => (∃ o, ops[u]? = some o ∧ YieldsIn P ops C o v a) ∧ PendOK P ops C a U
theorem PendOK.get {C : World → Prop} {a : Act} : ∀ {U : List (Nat × Value)}, PendOK P ops C a U → ∀ p ∈ U, ∃ o, ops[p.1]? = some o ∧ YieldsIn P ops C o p.2 a
  | _ :: _, ⟨h, k⟩, p, hp => by
    rcases List.mem_cons.1 hp with rfl | hp
    · exact h
    · exact k.get p hp
/-- Which of these may come next. -/
def rdy (ms : List Nat) (items : List Nat) : List Nat := items.filter fun j => items.all fun k => !bef ms k j
/-- What is left once i has come, if it may come next, and does not write what another one looks at ahead of it (wr has these). -/
def tak (ms wr : List Nat) (items : List Nat) (i : Nat) : Option (List Nat) := bif (rdy ms items).contains i && !wr.contains i then some (items.erase i) else none
/-- The walk: either an operation that only yields comes next, whichever comes next indeed; or whichever may come next acts. -/
def wpS (P : Program) (ops : Array Oper) (ms wr : List Nat) (Q : Exit → Act → World → Prop) : Nat → List Nat → List (Nat × Value) → Act → (World → Prop) → Prop
  | 0, _, _, a, C => ∀ w, C w → Q .normal a w
  | n + 1, items, pend, a, C => (∃ i rest, tak ms wr items i = some rest ∧ ∃ o v, ops[i]? = some o ∧ YieldsIn P ops C o v a ∧ wpS P ops ms wr Q n rest ((i, v) :: pend) (a.put o.dst v) C) ∨
      (∀ i ∈ rdy ms items, ∃ o, ops[i]? = some o ∧ Region.wanted o (yielded ops a.tmps) = true ∧ ∀ w, C w →
      o.wp P a w (fun a' w' => ∃ C' : World → Prop, C' w' ∧ ∃ pend', pend.filter (fun p => !bef ms p.1 i) = pend' ∧ PendOK P ops C' a' pend' ∧ wpS P ops ms wr Q n (items.erase i) pend' a' C') (fun _ _ _ => False))
/-- What is asked of the operations that act. -/
def wpE (P : Program) (ops : Array Oper) (ms wr : List Nat) (Q : Exit → Act → World → Prop) (n : Nat) (items : List Nat) (pend : List (Nat × Value)) (a : Act) (C : World → Prop) : Prop :=
  ∀ i ∈ rdy ms items, ∃ o, ops[i]? = some o ∧ Region.wanted o (yielded ops a.tmps) = true ∧ ∀ w, C w →
      o.wp P a w (fun a' w' => ∃ C' : World → Prop, C' w' ∧ ∃ pend', pend.filter (fun p => !bef ms p.1 i) = pend' ∧ PendOK P ops C' a' pend' ∧ wpS P ops ms wr Q n (items.erase i) pend' a' C') (fun _ _ _ => False)

def looksB (ops : Array Oper) (d : Option Tmp) (i : Nat) : Bool := match d, ops[i]? with
  | some d, some o => (o.looksAt ops).contains d
  | _, _ => false
/-- What is asked of the operations' places, and of the edges. -/
def chk (md : Region.Mode) (ops : Array Oper) (wr : List Nat) : Bool :=
  let ms := masks md ops.toList []
  Region.noSelect ops && (List.range ops.size).all (fun i => !looksB ops (dstOf ops i) i && (List.range ops.size).all (fun j => i == j || ((match dstOf ops i, dstOf ops j with | some d, some e => d != e | _, _ => true) && (!looksB ops (dstOf ops j) i || bef ms j i || (wr.contains j && bef ms i j))))) &&
  (List.range ops.size).all (fun i => match ops[i]? with | some o => o.after.all (fun e => decide (e.on < i)) | none => true)

theorem Act.put_looks {o : Oper} (hs : ∀ cs b, o.op ≠ .select cs b) (a : Act) {i : Nat} (ho : ops[i]? = some o) (d : Option Tmp) (v : Value) (h : looksB ops d i = false) :
    execOp (a.put d v).eval o = execOp a.eval o ∧ Region.wanted o (yielded ops (a.put d v).tmps) = Region.wanted o (yielded ops a.tmps) := by
  have h' : ∀ e, d = some e → e ∉ o.looksAt ops := fun e he hm => by
    subst he
    simp only [looksB, ho] at h
    have : (o.looksAt ops).contains e = true := List.contains_iff_mem.2 hm
    rw [this] at h; cases h
  exact ⟨execOp_put o hs a d v h', wanted_put o a d v h'⟩
theorem putAll_looks {o : Oper} (hs : ∀ cs b, o.op ≠ .select cs b) {i : Nat} (ho : ops[i]? = some o) (a : Act) : ∀ (U : List (Nat × Value)), (∀ p ∈ U, looksB ops (dstOf ops p.1) i = false) →
    execOp (putAll ops a U).eval o = execOp a.eval o ∧ Region.wanted o (yielded ops (putAll ops a U).tmps) = Region.wanted o (yielded ops a.tmps)
  | [], _ => ⟨rfl, rfl⟩
  | (u, v) :: U, h => by
    have h1 := putAll_looks hs ho a U (fun p hp => h p (by simp [hp]))
    have h2 := Act.put_looks (ops := ops) hs (putAll ops a U) ho (dstOf ops u) v (h (u, v) (by simp))
    exact ⟨h2.1.trans h1.1, h2.2.trans h1.2⟩
theorem putAll_put (a : Act) (d : Option Tmp) (v : Value) : ∀ (U : List (Nat × Value)), (∀ p ∈ U, ∀ e, dstOf ops p.1 = some e → d ≠ some e) → putAll ops (a.put d v) U = (putAll ops a U).put d v
  | [], _ => rfl
  | (u, x) :: U, h => by
    simp only [putAll]
    rw [putAll_put a d v U (fun p hp => h p (by simp [hp]))]
    exact (Act.put_comm _ _ _ (fun e he => h (u, x) (by simp) e he)).symm
theorem putAll_erase (a : Act) (j : Nat) (v : Value) : ∀ (U : List (Nat × Value)), (j, v) ∈ U → (U.map (·.1)).Nodup → (∀ p ∈ U, p.1 ≠ j → ∀ e, dstOf ops p.1 = some e → dstOf ops j ≠ some e) →
    putAll ops a U = putAll ops (a.put (dstOf ops j) v) (U.filter (fun p => p.1 != j))
  | (u, x) :: U, hm, hn, hd => by
    simp only [List.map_cons, List.nodup_cons] at hn
    by_cases e : u = j
    · subst e
      have hx : x = v := by
        rcases List.mem_cons.1 hm with h | h
        · cases h; rfl
        · exact absurd (List.mem_map.2 ⟨(u, v), h, rfl⟩) hn.1
      subst hx
      have hf : U.filter (fun p => p.1 != u) = U := List.filter_eq_self.2 fun p hp => by
        have : p.1 ≠ u := fun e => hn.1 (List.mem_map.2 ⟨p, hp, e⟩)
        simpa using this
      simp only [List.filter_cons, bne_self_eq_false, Bool.false_eq_true, if_false, hf, putAll]
      rw [putAll_put a (dstOf ops u) x U (fun p hp e he => hd p (by simp [hp]) (fun e => hn.1 (List.mem_map.2 ⟨p, hp, e⟩)) e he)]
    · have hm' : (j, v) ∈ U := by
        rcases List.mem_cons.1 hm with h | h
        · cases h; exact absurd rfl e
        · exact h
      have e' : (u != j) = true := by simpa using e
      simp only [List.filter_cons, e', if_true, putAll]
      rw [putAll_erase a j v U hm' hn.2 (fun p hp => hd p (by simp [hp]))]
theorem Oper.wp_anyQ {o : Oper} {a : Act} {w : World} {K : Act → World → Prop} {Q : Exit → Act → World → Prop} (h : o.wp P a w K (fun _ _ _ => False)) : o.wp P a w K Q := by
  unfold Oper.wp at *
  generalize (execOp a.eval o).run P w = r at *
  cases r with
  | ok n w' =>
    cases n <;> simp only [Oper.upon] at h ⊢ <;> try exact h
    exact Calls.mono h fun e w'' he => by
      cases e with
      | returned v => exact he
      | panicked c => exact he.elim
      | outgrown => obtain ⟨_, _, h⟩ := he; exact h.elim
  | halt x w' => cases x <;> simp only [Oper.upon] at h ⊢
theorem Oper.wp_shift {o : Oper} (hs : ∀ cs b, o.op ≠ .select cs b) {a : Act} {w : World} {K : Act → World → Prop} {d : Option Tmp} {v : Value} (hl : execOp (a.put d v).eval o = execOp a.eval o) (hd : ∀ e, d = some e → o.dst ≠ some e)
    (h : o.wp P (a.put d v) w K (fun _ _ _ => False)) : o.wp P a w (fun a' w' => K (a'.put d v) w') (fun _ _ _ => False) := by
  unfold Oper.wp at *
  rw [hl] at h
  generalize (execOp a.eval o).run P w = r at *
  cases r with
  | ok n w' =>
    cases n <;> simp only [Oper.upon] at h ⊢
    case value u => rw [← Act.put_comm a v u hd]; exact h
    case skip => rw [← Act.put_comm a v undef hd]; exact h
    case defer x => rw [← Act.put_comm _ v undef hd, ← Act.put_defers]; exact h
    case enter f args =>
      refine Calls.mono h fun e w'' he => ?_
      cases e with
      | returned u => simp only [] at he ⊢; rw [← Act.put_comm a v u hd]; exact he
      | panicked c => exact he
      | outgrown => exact he
    case row r args => exact Rows.mono h fun u w'' he => by rw [← Act.put_comm a v u hd]; exact he
  | halt x w' => cases x <;> simp only [Oper.upon] at h ⊢
theorem Oper.wp_shiftAll {o : Oper} (hs : ∀ cs b, o.op ≠ .select cs b) {i : Nat} (ho : ops[i]? = some o) {a : Act} {w : World} : ∀ (U : List (Nat × Value)) {K : Act → World → Prop}, (∀ p ∈ U, looksB ops (dstOf ops p.1) i = false) → (∀ p ∈ U, ∀ e, dstOf ops p.1 = some e → o.dst ≠ some e) →
    o.wp P (putAll ops a U) w K (fun _ _ _ => False) → o.wp P a w (fun a' w' => K (putAll ops a' U) w') (fun _ _ _ => False)
  | [], K, _, _, h => h
  | (u, v) :: U, K, h1, h2, h => by
    have h3 := Oper.wp_shift hs (Act.put_looks (ops := ops) hs (putAll ops a U) ho (dstOf ops u) v (h1 (u, v) (by simp))).1 (h2 (u, v) (by simp)) h
    exact Oper.wp_shiftAll hs ho U (fun p hp => h1 p (by simp [hp])) (fun p hp => h2 p (by simp [hp])) h3

/-- What holds of the operations' places. -/
structure Places (md : Region.Mode) (ops : Array Oper) (wr : List Nat) : Prop where
  self : ∀ i, i < ops.size → looksB ops (dstOf ops i) i = false
  looks : ∀ i j, i < ops.size → j < ops.size → i ≠ j → looksB ops (dstOf ops j) i = true → bef (masks md ops.toList []) j i = true ∨ (j ∈ wr ∧ bef (masks md ops.toList []) i j = true)
  dsts : ∀ i j, i < ops.size → j < ops.size → i ≠ j → ∀ e, dstOf ops i = some e → dstOf ops j ≠ some e
structure Inv (P : Program) (md : Region.Mode) (ops : Array Oper) (wr : List Nat) (Q : Exit → Act → World → Prop) (items : List Nat) (U pend : List (Nat × Value)) (a0 : Act) (C : World → Prop) (listed : Array Bool) : Prop where
  walk : wpS P ops (masks md ops.toList []) wr Q items.length items pend (putAll ops a0 U) C
  mem : ∀ p ∈ U, p ∈ pend
  yields : ∀ p ∈ U, ∃ o, ops[p.1]? = some o ∧ YieldsIn P ops C o p.2 (putAll ops a0 U)
  nodup : (U.map (·.1)).Nodup
  inodup : items.Nodup
  left : ∀ j, j < ops.size → (listed.getD j true = false ↔ (j ∈ U.map (·.1) ∨ j ∈ items))
  lt : (∀ p ∈ U, p.1 < ops.size) ∧ ∀ p ∈ items, p < ops.size
  clear : ∀ p ∈ U, ∀ j ∈ items, (looksB ops (dstOf ops j) p.1 = true → j ∈ wr) ∧ j ≠ p.1
  nwr : ∀ p ∈ U, p.1 ∉ wr
  size : listed.size = ops.size
  closed : ∀ x y, Dep md ops y x → listed.getD x false = true → listed.getD y false = true

theorem mem_rdy {ms items : List Nat} {i : Nat} (h : i ∈ rdy ms items) : i ∈ items ∧ ∀ k ∈ items, bef ms k i = false := by
  simp only [rdy, List.mem_filter, List.all_eq_true] at h
  exact ⟨h.1, fun k hk => by simpa using h.2 k hk⟩
theorem rdy_mem {ms items : List Nat} {i : Nat} (h : i ∈ items) (hk : ∀ k ∈ items, bef ms k i = false) : i ∈ rdy ms items := by
  simp only [rdy, List.mem_filter, List.all_eq_true]
  exact ⟨h, fun k h => by simp [hk k h]⟩
theorem tak_some {ms wr items rest : List Nat} {i : Nat} (h : tak ms wr items i = some rest) : i ∈ items ∧ (∀ k ∈ items, bef ms k i = false) ∧ i ∉ wr ∧ rest = items.erase i := by
  unfold tak at h
  cases hc : (rdy ms items).contains i with
  | false => rw [hc] at h; cases h
  | true =>
    cases hw : wr.contains i with
    | true => rw [hc, hw] at h; cases h
    | false =>
      rw [hc, hw] at h
      have := mem_rdy (List.contains_iff_mem.1 hc)
      exact ⟨this.1, this.2, fun hm => (by rw [List.contains_iff_mem.2 hm] at hw; cases hw), by cases h; rfl⟩
theorem getD_true_false {l : Array Bool} {j : Nat} (h : j < l.size) : l.getD j true = l.getD j false := by
  simp [Array.getD, h]
/-- An operation that only yields is walked, whether it has been carried out or not. -/
theorem Inv.adv {wr : List Nat} {Q : Exit → Act → World → Prop} (hp : Places md ops wr) (hsel : Region.noSelect ops = true) : ∀ (n : Nat) (items : List Nat) {U pend : List (Nat × Value)} {a0 : Act} {C : World → Prop} {listed : Array Bool}, items.length = n → Inv P md ops wr Q items U pend a0 C listed →
    ∃ items' U' pend', Inv P md ops wr Q items' U' pend' a0 C listed ∧ items'.length + U'.length = items.length + U.length ∧ (items' = [] ∨ ∃ m, items'.length = m + 1 ∧ wpE P ops (masks md ops.toList []) wr Q m items' pend' (putAll ops a0 U') C)
  | 0, items, U, pend, a0, C, listed, hn, h => ⟨items, U, pend, h, rfl, .inl (List.eq_nil_of_length_eq_zero hn)⟩
  | n + 1, items, U, pend, a0, C, listed, hn, h => by
    have hwk := h.walk
    rw [hn] at hwk
    rcases hwk with ⟨i, rest, ht, o, v, ho, hy, hw⟩ | hE
    case inr => exact ⟨items, U, pend, h, rfl, .inr ⟨n, hn, hE⟩⟩
    obtain ⟨hi, hbef, hiw, rfl⟩ := tak_some ht
    have hilt := h.lt.2 i hi
    have hso := fun cs b => Region.noSelect_spec hsel i o cs b ho
    have hdst : o.dst = dstOf ops i := by simp [dstOf, ho]
    have hiU : i ∉ U.map (·.1) := by
      intro hm
      obtain ⟨p, hpU, e⟩ := List.mem_map.1 hm
      exact (h.clear p hpU i hi).2 e.symm
    have hlen : (items.erase i).length = n := by rw [List.length_erase_of_mem hi]; omega
    have key : Inv P md ops wr Q (items.erase i) ((i, v) :: U) ((i, v) :: pend) a0 C listed := by
      refine { walk := by rw [hdst] at hw; rw [hlen]; exact hw, mem := ?_, yields := ?_, nodup := by simp only [List.map_cons, List.nodup_cons]; exact ⟨hiU, h.nodup⟩, inodup := h.inodup.erase i, left := ?_, lt := ?_, clear := ?_, nwr := ?_, size := h.size, closed := h.closed }
      · intro p hp
        rcases List.mem_cons.1 hp with rfl | hp
        · simp
        · exact List.mem_cons_of_mem _ (h.mem p hp)
      · intro p hpU
        rcases List.mem_cons.1 hpU with rfl | hpU
        · obtain ⟨e1, e2⟩ := Act.put_looks (ops := ops) hso (putAll ops a0 U) ho (dstOf ops i) v (hp.self i hilt)
          exact ⟨o, ho, hy.of_same e1 e2⟩
        · obtain ⟨op, hop, hyp⟩ := h.yields p hpU
          have hsp := fun cs b => Region.noSelect_spec hsel p.1 op cs b hop
          obtain ⟨e1, e2⟩ := Act.put_looks (ops := ops) hsp (putAll ops a0 U) hop (dstOf ops i) v (by cases hb : looksB ops (dstOf ops i) p.1 with | false => rfl | true => exact absurd ((h.clear p hpU i hi).1 hb) hiw)
          exact ⟨op, hop, hyp.of_same e1 e2⟩
      · intro j hj
        rw [h.left j hj]
        simp only [List.map_cons, List.mem_cons, h.inodup.mem_erase_iff]
        constructor
        · rintro (h1 | h1)
          · exact .inl (.inr h1)
          · by_cases e : j = i
            · exact .inl (.inl e)
            · exact .inr ⟨e, h1⟩
        · rintro ((rfl | h1) | h1)
          · exact .inr hi
          · exact .inl h1
          · exact .inr h1.2
      · refine ⟨fun p hpU => ?_, fun p hpI => h.lt.2 p (List.mem_of_mem_erase hpI)⟩
        rcases List.mem_cons.1 hpU with rfl | hpU
        · exact hilt
        · exact h.lt.1 p hpU
      · intro p hpU j hj
        have hj' := h.inodup.mem_erase_iff.1 hj
        rcases List.mem_cons.1 hpU with rfl | hpU
        · refine ⟨fun hl => ?_, hj'.1⟩
          rcases hp.looks i j hilt (h.lt.2 j hj'.2) (fun e => hj'.1 e.symm) hl with hb | hb
          · rw [hbef j hj'.2] at hb; cases hb
          · exact hb.1
        · exact h.clear p hpU j hj'.2
      · intro p hpU
        rcases List.mem_cons.1 hpU with rfl | hpU
        · exact hiw
        · exact h.nwr p hpU
    obtain ⟨items', U', pend', h1, h2, h3⟩ := Inv.adv hp hsel n (items.erase i) hlen key
    exact ⟨items', U', pend', h1, by rw [h2, hlen, hn]; simp; omega, h3⟩

theorem closed_set {listed : Array Bool} {j : Nat} (hsz : listed.size = ops.size) (hj : j ∈ Region.ready md ops listed) (hc : ∀ x y, Dep md ops y x → listed.getD x false = true → listed.getD y false = true) :
    ∀ x y, Dep md ops y x → (listed.setIfInBounds j true).getD x false = true → (listed.setIfInBounds j true).getD y false = true := by
  intro x y hd hx
  by_cases e : j = x
  · subst e
    obtain ⟨_, o, ho, hall⟩ := mem_ready.1 hj
    cases hd with
    | here ho' he hb => rw [ho] at ho'; cases ho'; exact getD_set_true (hall _ he hb)
    | more ho' he hb h => rw [ho] at ho'; cases ho'; exact getD_set_true (hc _ _ h (hall _ he hb))
  · rw [getD_set_ne false e] at hx
    exact getD_set_true (hc x y hd hx)
theorem ready_deps {listed : Array Bool} {j u : Nat} (hj : j ∈ Region.ready md ops listed) (hc : ∀ x y, Dep md ops y x → listed.getD x false = true → listed.getD y false = true) (hd : Dep md ops u j) : listed.getD u false = true := by
  obtain ⟨_, o, ho, hall⟩ := mem_ready.1 hj
  cases hd with
  | here ho' he hb => rw [ho] at ho'; cases ho'; exact hall _ he hb
  | more ho' he hb h => rw [ho] at ho'; cases ho'; exact hc _ _ h (hall _ he hb)
theorem ready_some {listed : Array Bool} (hlex : ∀ (i : Nat) (o : Oper), ops[i]? = some o → ∀ e ∈ o.after, e.on < i) (hsz : listed.size = ops.size) : ∀ (n j : Nat), j ≤ n → j < ops.size → listed.getD j true = false → Region.ready md ops listed ≠ []
  | n, j, hn, hj, hu => by
    by_cases h : ∃ k, k < j ∧ listed.getD k true = false
    · obtain ⟨k, hk, hku⟩ := h
      cases n with
      | zero => omega
      | succ n => exact ready_some hlex hsz n k (by omega) (by omega) hku
    · intro hr
      have : j ∈ Region.ready md ops listed := by
        refine mem_ready.2 ⟨hu, ops[j], Array.getElem?_eq_getElem hj, fun e he hb => ?_⟩
        have hlt := hlex j _ (Array.getElem?_eq_getElem hj) e he
        cases hg : listed.getD e.on true with
        | false => exact absurd ⟨_, hlt, hg⟩ h
        | true => rw [← getD_true_false (by omega)]; exact hg
      rw [hr] at this; cases this

theorem any_of_inv {wr : List Nat} {Q : Exit → Act → World → Prop} (hp : Places md ops wr) (hsel : Region.noSelect ops = true) (hlex : ∀ (i : Nat) (o : Oper), ops[i]? = some o → ∀ e ∈ o.after, e.on < i) : ∀ (fuel : Nat) (items : List Nat) (U pend : List (Nat × Value)) (a0 : Act) (C : World → Prop) (listed : Array Bool) (w : World),
    Inv P md ops wr Q items U pend a0 C listed → C w → items.length + U.length ≤ fuel → wpAny P md ops Q fuel listed a0 w := by
  intro fuel
  induction fuel with
  | zero =>
    intro items U pend a0 C listed w h hw hl
    have hi : items = [] := List.eq_nil_of_length_eq_zero (by omega)
    have hU : U = [] := List.eq_nil_of_length_eq_zero (by omega)
    subst hi; subst hU
    refine ⟨?_, h.walk w hw⟩
    cases hr : Region.ready md ops listed with
    | nil => rfl
    | cons j l =>
      have hj : j ∈ Region.ready md ops listed := by rw [hr]; simp
      obtain ⟨hu, o, ho, _⟩ := mem_ready.1 hj
      have := (h.left j (Array.getElem?_eq_some_iff.1 ho).1).1 hu
      simp at this
  | succ fuel ih =>
    intro items U pend a0 C listed w h0 hw hl
    obtain ⟨items', U', pend', h, hlen, hhead⟩ := Inv.adv hp hsel items.length items rfl h0
    rw [← hlen] at hl
    clear h0 hlen
    refine ⟨fun hr => ?_, fun j hj => ?_⟩
    · -- nothing is left
      have hnone : ∀ j, j < ops.size → listed.getD j true ≠ false := fun j hj hu => ready_some hlex h.size j j (Nat.le_refl _) hj hu hr
      have hi : items' = [] := by
        cases items' with
        | nil => rfl
        | cons p r => exact absurd ((h.left p (h.lt.2 p (by simp))).2 (.inr (by simp))) (hnone _ (h.lt.2 p (by simp)))
      have hU : U' = [] := by
        cases U' with
        | nil => rfl
        | cons p r => exact absurd ((h.left p.1 (h.lt.1 p (by simp))).2 (.inl (by simp))) (hnone _ (h.lt.1 p (by simp)))
      subst hi; subst hU
      exact h.walk w hw
    · obtain ⟨hun, oj, hoj, hall⟩ := mem_ready.1 hj
      have hjlt := (Array.getElem?_eq_some_iff.1 hoj).1
      have hsj := fun cs b => Region.noSelect_spec hsel j oj cs b hoj
      have unl : ∀ u, u < ops.size → listed.getD u true = false → ¬ Dep md ops u j := fun u hu hun' hd => by
        have := ready_deps hj h.closed hd
        rw [← getD_true_false (by rw [h.size]; exact hu), hun'] at this; cases this
      have hUunl : ∀ p ∈ U', listed.getD p.1 true = false := fun p hp => (h.left p.1 (h.lt.1 p hp)).2 (.inl (List.mem_map.2 ⟨p, hp, rfl⟩))
      have left' : ∀ (V : List (Nat × Value)) (r : List Nat), (∀ k, k < ops.size → k ≠ j → ((k ∈ U'.map (·.1) ∨ k ∈ items') ↔ (k ∈ V.map (·.1) ∨ k ∈ r))) → (¬ (j ∈ V.map (·.1) ∨ j ∈ r)) →
          ∀ k, k < ops.size → ((listed.setIfInBounds j true).getD k true = false ↔ (k ∈ V.map (·.1) ∨ k ∈ r)) := by
        intro V r h1 h2 k hk
        by_cases e : j = k
        · subst e
          have : (listed.setIfInBounds j true).getD j true = true := by simp [h.size, hjlt]
          rw [this]
          exact ⟨fun h => (by cases h), fun h => absurd h h2⟩
        · rw [getD_set_ne true e, h.left k hk]
          exact h1 k hk (fun e' => e e'.symm)
      rcases (h.left j hjlt).1 hun with hjU | hjI
      · -- it was walked already
        obtain ⟨⟨j', v⟩, hpU, rfl⟩ := List.mem_map.1 hjU
        obtain ⟨o, ho, hy⟩ := h.yields (j', v) hpU
        simp only at ho hy hoj hjlt hsj unl hj left' hun hall hjU ⊢
        rw [hoj] at ho; cases ho
        have hno : ∀ p ∈ U', looksB ops (dstOf ops p.1) j' = false := fun p hp' => by
          cases hb : looksB ops (dstOf ops p.1) j' with
          | false => rfl
          | true =>
            by_cases e : p.1 = j'
            · rw [e] at hb; rw [hp.self j' hjlt] at hb; cases hb
            · exact absurd (bef_sound ((hp.looks j' p.1 hjlt (h.lt.1 p hp') (fun e' => e e'.symm) hb).resolve_right fun hw => h.nwr p hp' hw.1)) (unl p.1 (h.lt.1 p hp') (hUunl p hp'))
        obtain ⟨e1, e2⟩ := putAll_looks hsj hoj a0 U' hno
        have hy0 : YieldsIn P ops C oj v a0 := hy.of_same e1.symm e2.symm
        have hdst : oj.dst = dstOf ops j' := by simp [dstOf, hoj]
        have her := putAll_erase (ops := ops) a0 j' v U' hpU h.nodup (fun p hp' hne e he => hp.dsts p.1 j' (h.lt.1 p hp') hjlt hne e he)
        have hlenU : (U'.filter (fun p => p.1 != j')).length < U'.length := by
          refine List.length_filter_lt_length_iff_exists.2 ⟨(j', v), hpU, by simp⟩
        refine wpOp_of_qOp (K := fun a => ∀ w', C w' → wpAny P md ops Q fuel (listed.setIfInBounds j' true) a w') hw (fun a w' hw' hk => hk w' hw') (hy0.qOp hoj ?_)
        intro w' hw'
        refine ih items' (U'.filter (fun p => p.1 != j')) pend' (a0.put oj.dst v) C _ w' ?_ hw' (by omega)
        rw [hdst]
        refine { walk := her ▸ h.walk, mem := fun p hp' => h.mem p (List.mem_filter.1 hp').1, yields := fun p hp' => ?_, nodup := ?_, inodup := h.inodup, left := ?_, lt := ⟨fun p hp' => h.lt.1 p (List.mem_filter.1 hp').1, h.lt.2⟩, clear := fun p hp' => h.clear p (List.mem_filter.1 hp').1, nwr := fun p hp' => h.nwr p (List.mem_filter.1 hp').1, size := by simpa using h.size, closed := closed_set h.size hj h.closed }
        · rw [← her]; exact h.yields p (List.mem_filter.1 hp').1
        · exact h.nodup.sublist (List.filter_sublist.map _)
        · refine left' _ _ (fun k hk hne => ?_) ?_
          · simp only [List.mem_map, List.mem_filter]
            constructor
            · rintro (⟨p, hp', rfl⟩ | h1)
              · exact .inl ⟨p, ⟨hp', by simpa using hne⟩, rfl⟩
              · exact .inr h1
            · rintro (⟨p, ⟨hp', _⟩, rfl⟩ | h1)
              · exact .inl ⟨p, hp', rfl⟩
              · exact .inr h1
          · rintro (h1 | h1)
            · obtain ⟨p, hp', e⟩ := List.mem_map.1 h1
              have := (List.mem_filter.1 hp').2
              simp [e] at this
            · exact (h.clear (j', v) hpU j' h1).2 rfl
      · -- it acts
        rcases hhead with rfl | ⟨m, hm, hE⟩
        · simp at hjI
        · have hrd : j ∈ rdy (masks md ops.toList []) items' := rdy_mem hjI fun k hk => by
            cases hb : bef (masks md ops.toList []) k j with
            | false => rfl
            | true => exact absurd (bef_sound hb) (unl k (h.lt.2 k hk) ((h.left k (h.lt.2 k hk)).2 (.inr hk)))
          obtain ⟨o, ho, hwant, hwp⟩ := hE j hrd
          rw [hoj] at ho; cases ho
          have hlen : (items'.erase j).length = m := by rw [List.length_erase_of_mem hjI]; omega
          have hnoD : ∀ p ∈ U', ¬ Dep md ops p.1 j := fun p hp => unl p.1 (h.lt.1 p hp) (hUunl p hp)
          have hneU : ∀ p ∈ U', p.1 ≠ j := fun p hpU e => (h.clear p hpU j hjI).2 e.symm
          have hno : ∀ p ∈ U', looksB ops (dstOf ops p.1) j = false := fun p hpU => by
            cases hb : looksB ops (dstOf ops p.1) j with
            | false => rfl
            | true => exact absurd (bef_sound ((hp.looks j p.1 hjlt (h.lt.1 p hpU) (fun e => hneU p hpU e.symm) hb).resolve_right fun hw => h.nwr p hpU hw.1)) (hnoD p hpU)
          have hdst : oj.dst = dstOf ops j := by simp [dstOf, hoj]
          have hnd : ∀ p ∈ U', ∀ e, dstOf ops p.1 = some e → oj.dst ≠ some e := fun p hpU e he => by rw [hdst]; exact hp.dsts p.1 j (h.lt.1 p hpU) hjlt (hneU p hpU) e he
          have h1 := Oper.wp_shiftAll hsj hoj U' hno hnd (hwp w hw)
          have h2 := Oper.wp_anyQ (Q := Q) h1
          have hw0 : Region.wanted oj (yielded ops a0.tmps) = true := by rw [← (putAll_looks hsj hoj a0 U' hno).2]; exact hwant
          unfold wpOp
          simp only [hoj, hw0, if_true]
          refine .inl (Oper.wp_mono (fun a' w' hk => ?_) h2)
          obtain ⟨C', hC', pend2, hpend, hok, hwalk⟩ := hk
          refine ih (items'.erase j) U' pend2 a' C' _ w' ?_ hC' (by omega)
          have hmem : ∀ p ∈ U', p ∈ pend2 := fun p hpU => by
            rw [← hpend]
            refine List.mem_filter.2 ⟨h.mem p hpU, ?_⟩
            cases hb : bef (masks md ops.toList []) p.1 j with
            | false => rfl
            | true => exact absurd (bef_sound hb) (hnoD p hpU)
          refine { walk := by rw [hlen]; exact hwalk, mem := hmem, yields := fun p hp => hok.get p (hmem p hp), nodup := h.nodup, inodup := h.inodup.erase j, left := ?_, lt := ⟨h.lt.1, fun p hp => h.lt.2 p (List.mem_of_mem_erase hp)⟩, clear := fun p hp q hq => h.clear p hp q (List.mem_of_mem_erase hq), nwr := h.nwr, size := by simpa using h.size, closed := closed_set h.size hj h.closed }
          refine left' _ _ (fun k hk hne => ?_) ?_
          · rw [h.inodup.mem_erase_iff]
            constructor
            · rintro (h1 | h1)
              · exact .inl h1
              · exact .inr ⟨hne, h1⟩
            · rintro (h1 | h1)
              · exact .inl h1
              · exact .inr h1.2
          · rintro (h1 | h1)
            · obtain ⟨p, hpU, e⟩ := List.mem_map.1 h1
              exact hneU p hpU e
            · exact (h.inodup.mem_erase_iff.1 h1).1 rfl

/-- A REGION THAT DRAWS ITS ORDER, AND ACTS. -/
theorem wp_region_S {id : Nat} {l : List Oper} {a : Act} {w : World} {Q : Exit → Act → World → Prop} (wr : List Nat) (hm : P.follows .mixedOrders = true) (hc : chk .any l.toArray wr = true) (C : World → Prop) (hC : C { w with drawn := w.drawn + 1 })
    (h : wpS P l.toArray (masks .any l []) wr Q l.length (List.range l.length) [] a C) : (Code.region id l.toArray true).wp P Q a w := by
  simp only [chk, Bool.and_eq_true, List.all_eq_true, List.mem_range] at hc
  obtain ⟨⟨c1, c2⟩, c3⟩ := hc
  have hlex : ∀ (i : Nat) (o : Oper), l.toArray[i]? = some o → ∀ e ∈ o.after, e.on < i := fun i o ho e he => by
    have := c3 i (Array.getElem?_eq_some_iff.1 ho).1
    rw [ho] at this
    simp only [Array.all_eq_true_iff_forall_mem] at this
    simpa using this e he
  have hp : Places .any l.toArray wr := by
    refine { self := fun i hi => by simpa using (c2 i hi).1, looks := fun i j hi hj hne hl => ?_, dsts := fun i j hi hj hne e he hc => ?_ }
    · have := (c2 i hi).2 j hj
      simp only [Bool.or_eq_true, beq_iff_eq, Bool.and_eq_true] at this
      rcases this with e | ⟨_, h2⟩
      · exact absurd e hne
      · simpa [hl] using h2
    · have := (c2 i hi).2 j hj
      simp only [Bool.or_eq_true, beq_iff_eq, Bool.and_eq_true] at this
      rcases this with e | ⟨h1, _⟩
      · exact absurd e hne
      · rw [he, hc] at h1
        simp at h1
  refine wp_region_any hm (any_of_inv hp c1 hlex l.toArray.size (List.range l.length) [] [] a C _ _ ?_ hC (by simp))
  refine { walk := by simpa [putAll] using h, mem := by simp, yields := by simp, nodup := by simp, inodup := List.nodup_range, left := ?l, lt := ⟨by simp, fun p hp => by simpa using hp⟩, clear := by simp, nwr := by simp, size := by simp, closed := fun x y _ hx => ?c }
  case l =>
    intro j hj
    have hj' : j < l.length := by simpa using hj
    have h1 : (Array.replicate l.toArray.size false).getD j true = false := by simp [hj']
    rw [h1]
    exact ⟨fun _ => Or.inr (by simpa using hj'), fun _ => rfl⟩
  case c =>
    exfalso
    by_cases hx2 : x < l.length <;> simp [hx2] at hx
end

/-! ### The walk, in frames -/
section
variable {P : Program} {l : List Oper} {ms wr : List Nat} {Q : Exit → Act → World → Prop} {items rest : List Nat} {pend pend' : List (Nat × Value)} {N n : Nat} {σ : Nat → Value} {i d : Nat} {o : Oper} {v : Value} {C : World → Prop}
theorem ops_at (h : l[i]? = some o) : l.toArray[i]? = some o := by simpa using h
theorem yi_run (hw : Region.wanted o (yielded l.toArray (Fr N σ).tmps) = true) (h : ∀ w, C w → (execOp (ev N σ) o).run P w = .ok (.value v) w) : YieldsIn P l.toArray C o v (Fr N σ) := by
  refine .inl ⟨hw, fun w hC => ?_⟩
  unfold Oper.quietAt
  rw [eval_Fr, h w hC]
  exact ⟨rfl, rfl⟩
theorem yi_off (hw : Region.wanted o (yielded l.toArray (Fr N σ).tmps) = false) : YieldsIn P l.toArray C o undef (Fr N σ) := .inr ⟨hw, rfl⟩
theorem ws_q (i : Nat) (rest : List Nat) (ht : tak ms wr items i = some rest) (ho : l[i]? = some o) (hd : o.dst = some d) (hy : YieldsIn P l.toArray C o v (Fr N σ)) (h : wpS P l.toArray ms wr Q n rest ((i, v) :: pend) (Fr N (upd σ d v)) C) :
    wpS P l.toArray ms wr Q (n + 1) items pend (Fr N σ) C := .inl ⟨i, rest, ht, o, v, ops_at ho, hy, by rw [hd, put_Fr]; exact h⟩
theorem ws_nil (h : ∀ w, C w → Q .normal (Fr N σ) w) : wpS P l.toArray ms wr Q 0 items pend (Fr N σ) C := h
/-- What has to be shown once an operation has acted. -/
def Nx (P : Program) (l : List Oper) (ms wr : List Nat) (Q : Exit → Act → World → Prop) (i n : Nat) (rest : List Nat) (pend : List (Nat × Value)) (a' : Act) (w' : World) : Prop :=
  ∃ C' : World → Prop, C' w' ∧ ∃ pend', pend.filter (fun p => !bef ms p.1 i) = pend' ∧ PendOK P l.toArray C' a' pend' ∧ wpS P l.toArray ms wr Q n rest pend' a' C'
/-- An operation that acts, next. -/
def NxE (P : Program) (l : List Oper) (ms wr : List Nat) (Q : Exit → Act → World → Prop) (n : Nat) (items : List Nat) (pend : List (Nat × Value)) (a : Act) (C : World → Prop) (i : Nat) : Prop :=
  ∃ o, l.toArray[i]? = some o ∧ Region.wanted o (yielded l.toArray a.tmps) = true ∧ ∀ w, C w → o.wp P a w (Nx P l ms wr Q i n (items.erase i) pend) (fun _ _ _ => False)
theorem nxe (rest : List Nat) (he : items.erase i = rest) (ho : l[i]? = some o) (hw : Region.wanted o (yielded l.toArray (Fr N σ).tmps) = true) (h : ∀ w, C w → o.wp P (Fr N σ) w (Nx P l ms wr Q i n rest pend) (fun _ _ _ => False)) :
    NxE P l ms wr Q n items pend (Fr N σ) C i := ⟨o, ops_at ho, hw, by rw [he]; exact h⟩
theorem wp_mid {c : Code} {a : Act} {w : World} (K : Act → World → Prop) (h : c.wp P (fun e a w => e = .normal ∧ K a w) a w) (h2 : ∀ a w, K a w → Q .normal a w) : c.wp P Q a w :=
  Code.wp_mono (fun e a w q => by obtain ⟨rfl, q⟩ := q; exact h2 a w q) h
theorem ws_e1 (i : Nat) (hr : rdy ms items = [i]) (h : NxE P l ms wr Q n items pend (Fr N σ) C i) : wpS P l.toArray ms wr Q (n + 1) items pend (Fr N σ) C :=
  .inr fun j hj => by rw [hr] at hj; cases List.mem_singleton.1 hj; exact h
theorem ws_e2 (i j : Nat) (hr : rdy ms items = [i, j]) (h : NxE P l ms wr Q n items pend (Fr N σ) C i) (h2 : NxE P l ms wr Q n items pend (Fr N σ) C j) : wpS P l.toArray ms wr Q (n + 1) items pend (Fr N σ) C :=
  .inr fun k hk => by
    rw [hr] at hk
    rcases List.mem_cons.1 hk with rfl | hk
    · exact h
    · cases List.mem_singleton.1 hk; exact h2
variable {w w' : World} {K : Act → World → Prop}
theorem we_run (hd : o.dst = some d) (h : (execOp (ev N σ) o).run P w = .ok (.value v) w') (k : K (Fr N (upd σ d v)) w') : o.wp P (Fr N σ) w K (fun _ _ _ => False) := by
  unfold Oper.wp
  rw [eval_Fr, h, Oper.upon_value, hd, put_Fr]
  exact k
theorem we_unit (hd : o.dst = none) (h : (execOp (ev N σ) o).run P w = .ok .skip w') (k : K (Fr N σ) w') : o.wp P (Fr N σ) w K (fun _ _ _ => False) := by
  unfold Oper.wp
  rw [eval_Fr, h, Oper.upon_skip, hd]
  exact k
theorem we_call {f : FuncId} {args : Array Value} (hd : o.dst = some d) (h : (execOp (ev N σ) o).run P w = .ok (.enter f args) w)
    (k : Calls P f args w fun e w' => ∃ v, e = .returned v ∧ K (Fr N (upd σ d v)) w') : o.wp P (Fr N σ) w K (fun _ _ _ => False) := by
  unfold Oper.wp
  rw [eval_Fr, h, Oper.upon_enter]
  refine k.mono fun e w' he => ?_
  obtain ⟨v, rfl, hk⟩ := he
  simp only [hd, put_Fr]
  exact hk
theorem ws_next {w0 : World} {I : HL} {L : List SP} {R : SP} {a' : Act} (hst : St w0 w' I L R) (hf : pend.filter (fun p => !bef ms p.1 i) = pend') (hp : PendOK P l.toArray (fun w => St w0 w I L R) a' pend')
    (h : wpS P l.toArray ms wr Q n rest pend' a' (fun w => St w0 w I L R)) : Nx P l ms wr Q i n rest pend a' w' := ⟨_, hst, pend', hf, hp, h⟩
theorem pk_nil {a : Act} : PendOK P l.toArray C a [] := trivial
theorem pk_cons {U : List (Nat × Value)} (ho : l[i]? = some o) (hy : YieldsIn P l.toArray C o v (Fr N σ)) (h : PendOK P l.toArray C (Fr N σ) U) : PendOK P l.toArray C (Fr N σ) ((i, v) :: U) := ⟨⟨o, ops_at ho, hy⟩, h⟩
theorem wp_region_St {id : Nat} {w0 : World} {I : HL} {L : List SP} {R : SP} (hst : St w0 w I L R) (n : Nat) (items ms wr : List Nat) (hn : l.length = n) (hi : List.range n = items) (hs : masks .any l [] = ms) (hm : P.follows .mixedOrders = true) (hc : chk .any l.toArray wr = true)
    (h : wpS P l.toArray ms wr Q n items [] (Fr N σ) (fun w => St w0 w I L R)) : (Code.region id l.toArray true).wp P Q (Fr N σ) w :=
  wp_region_S wr hm hc _ (hst.drawn _) (by subst hn; subst hi; subst hs; exact h)
end
/-! ### Short forms -/
section
variable {P : Program} {ops : Array Oper} {Q : Exit → Act → World → Prop} {more : List Oper} {N d j t : Nat} {σ : Nat → Value} {o : Oper} {w : World} {b B want : Bool}
theorem wv (v : Value) (hw : Region.wanted o (yielded ops (Fr N σ).tmps) = true) (hd : o.dst = some d) (h : (execOp (ev N σ) o).run P w = .ok (.value v) w) (k : wpList P ops Q more (Fr N (upd σ d v)) w) :
    wpList P ops Q (o :: more) (Fr N σ) w := wl_val hw hd h k
theorem wo (h : b = B) (hg : o.guard = some (j, want)) (hj : (ops[j]?).bind (·.dst) = some t) (ht : Nat.blt t N = true) (hv : σ t = .bool b) (hn : (B == want) = false) (hd : o.dst = some d) (k : wpList P ops Q more (Fr N (upd σ d undef)) w) :
    wpList P ops Q (o :: more) (Fr N σ) w := wl_off ((wanted_eq hg hj ht (hv.trans (congrArg Value.bool h))).trans hn) hd k
end
section
variable {P : Program} {l : List Oper} {ms wr : List Nat} {Q : Exit → Act → World → Prop} {items : List Nat} {pend : List (Nat × Value)} {N n d : Nat} {σ : Nat → Value} {o : Oper} {v : Value} {C : World → Prop}
theorem wsr (v : Value) (i : Nat) (ho : l[i]? = some o) (hd : o.dst = some d) (hw : Region.wanted o (yielded l.toArray (Fr N σ).tmps) = true) (ht : tak ms wr items i = some (items.erase i)) (h : ∀ w, C w → (execOp (ev N σ) o).run P w = .ok (.value v) w) (k : wpS P l.toArray ms wr Q n (items.erase i) ((i, v) :: pend) (Fr N (upd σ d v)) C) :
    wpS P l.toArray ms wr Q (n + 1) items pend (Fr N σ) C := ws_q i _ ht ho hd (yi_run hw h) k
theorem pkr {i : Nat} {U : List (Nat × Value)} (ho : l[i]? = some o) (hw : Region.wanted o (yielded l.toArray (Fr N σ).tmps) = true) (h : ∀ w, C w → (execOp (ev N σ) o).run P w = .ok (.value v) w) (k : PendOK P l.toArray C (Fr N σ) U) :
    PendOK P l.toArray C (Fr N σ) ((i, v) :: U) := pk_cons ho (yi_run hw h) k
end
end Go.V
