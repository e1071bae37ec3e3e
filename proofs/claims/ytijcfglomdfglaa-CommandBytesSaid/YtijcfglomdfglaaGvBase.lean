/- Frames, rules for one operation after the other, and a heap logic of owned and never-again-written blocks; generic over the program. -/
import Derived.Tactics
import Derived.Laws.World
import Derived.KernelRfl
set_option linter.unusedVariables false
set_option linter.unusedSimpArgs false
namespace Go.V
open Go

/-! ### Frames -/
def upd (σ : Nat → Value) (d : Nat) (v : Value) : Nat → Value := fun i => bif Nat.beq i d then v else σ i
def ini (l : List Value) : Nat → Value := fun i => l.getD i undef
def Fr (N : Nat) (σ : Nat → Value) : Act := { tmps := Array.ofFn (n := N) (fun i => σ i.val), defers := [] }
def ev (N : Nat) (σ : Nat → Value) : Operand → Value
  | .tmp t => bif Nat.blt t N then σ t else undef
  | .const v => v
  | .global g => .pointer (some ⟨g, 0, none⟩)
  | .func f => .func (.func f) #[] #[]

theorem eval_Fr (N : Nat) (σ : Nat → Value) : (Fr N σ).eval = ev N σ := by
  funext x
  cases x with
  | tmp t =>
    simp only [Act.eval, Fr, ev, Array.getD_eq_getD_getElem?, Array.getElem?_ofFn]
    by_cases h : t < N
    · have h2 : Nat.blt t N = true := by rw [Nat.blt_eq]; exact h
      simp [h, h2]
    · have : Nat.blt t N = false := by rw [Bool.eq_false_iff]; simpa [Nat.blt_eq] using h
      simp [h, this]
  | _ => rfl
theorem put_Fr (N : Nat) (σ : Nat → Value) (d : Nat) (v : Value) : (Fr N σ).put (some d) v = Fr N (upd σ d v) := by
  simp only [Act.put, Fr]
  congr 1
  apply Array.ext_getElem?
  intro i
  simp only [Array.getElem?_setIfInBounds, Array.getElem?_ofFn, Array.size_ofFn, upd]
  by_cases e : d = i
  · subst e
    by_cases h : d < N <;> simp [h]
  · have : Nat.beq i d = false := by rw [Bool.eq_false_iff]; intro h; exact e (Nat.eq_of_beq_eq_true h).symm
    simp [e, this]

section rules
variable {P : Program} {ops : Array Oper} {Q : Exit → Act → World → Prop} {rest : List Oper} {o : Oper} {N : Nat} {σ : Nat → Value} {w w' : World} {v : Value} {d : Nat}

theorem wl_run (hw : Region.wanted o (yielded ops (Fr N σ).tmps) = true) (hd : o.dst = some d)
    (h : (execOp (ev N σ) o).run P w = .ok (.value v) w') (k : wpList P ops Q rest (Fr N (upd σ d v)) w') :
    wpList P ops Q (o :: rest) (Fr N σ) w := by
  unfold wpList
  rw [if_pos hw]
  refine .inl ?_
  unfold Oper.wp
  rw [eval_Fr, h, Oper.upon_value, hd, put_Fr]
  exact k
theorem wl_unit (hw : Region.wanted o (yielded ops (Fr N σ).tmps) = true) (hd : o.dst = none)
    (h : (execOp (ev N σ) o).run P w = .ok .skip w') (k : wpList P ops Q rest (Fr N σ) w') :
    wpList P ops Q (o :: rest) (Fr N σ) w := by
  unfold wpList
  rw [if_pos hw]
  refine .inl ?_
  unfold Oper.wp
  rw [eval_Fr, h, Oper.upon_skip, hd]
  exact k
theorem wl_call {f : FuncId} {args : Array Value} (hw : Region.wanted o (yielded ops (Fr N σ).tmps) = true) (hd : o.dst = some d)
    (h : (execOp (ev N σ) o).run P w = .ok (.enter f args) w)
    (k : Calls P f args w fun e w' => ∃ v, e = .returned v ∧ wpList P ops Q rest (Fr N (upd σ d v)) w') :
    wpList P ops Q (o :: rest) (Fr N σ) w := by
  unfold wpList
  rw [if_pos hw]
  refine .inl ?_
  unfold Oper.wp
  rw [eval_Fr, h, Oper.upon_enter]
  refine k.mono fun e w' he => ?_
  obtain ⟨v, rfl, hk⟩ := he
  simp only [hd, put_Fr]
  exact hk
theorem wl_off (hw : Region.wanted o (yielded ops (Fr N σ).tmps) = false) (hd : o.dst = some d)
    (k : wpList P ops Q rest (Fr N (upd σ d undef)) w) : wpList P ops Q (o :: rest) (Fr N σ) w := by
  unfold wpList
  rw [if_neg (by rw [hw]; exact Bool.false_ne_true), hd, put_Fr]
  exact k
theorem wanted_eq {j t : Nat} {want b : Bool} (hg : o.guard = some (j, want)) (hj : (ops[j]?).bind (·.dst) = some t) (ht : Nat.blt t N = true) (hv : σ t = .bool b) :
    Region.wanted o (yielded ops (Fr N σ).tmps) = (b == want) := by
  unfold Region.wanted
  rw [hg]
  have : yielded ops (Fr N σ).tmps j = some b := by
    unfold yielded
    rw [hj]
    simp only [Option.bind_some, Fr, Array.getElem?_ofFn]
    rw [dif_pos (by simpa [Nat.blt_eq] using ht)]
    simp [hv]
  simp only [this]
  cases b <;> cases want <;> rfl
theorem wl_nil (h : Q .normal (Fr N σ) w) : wpList P ops Q [] (Fr N σ) w := h
theorem calls_start {f : FuncId} {fn : Func} {c : Code} {args : List Value} {R : Ending → World → Prop}
    (hf : P.funcs[f]? = some fn) (hb : fn.body = some c) (hN : fn.ntmps = N) (hl : args.length ≤ N)
    (h : c.wp P (bodyPost P fn R) (Fr N (ini args)) w) : Calls P f args.toArray w R := by
  refine calls_of_wp hf hb ?_
  have e : ({ tmps := args.toArray ++ Array.replicate (fn.ntmps - args.toArray.size) undef, defers := [] } : Act) = Fr N (ini args) := by
    subst hN
    simp only [Fr]
    congr 1
    apply Array.ext
    · simp; omega
    · intro i h1 h2
      simp only [Array.getElem_append, Array.getElem_ofFn, ini]
      split
      · rename_i h3
        simp at h3
        simp [List.getElem?_eq_getElem h3]
      · rename_i h3
        simp at h3
        simp [h3]
  rw [e]
  exact h
/-- A loop whose rounds are counted by a number that stands nowhere. -/
theorem wp_loop_n {c : Code} {a : Act} (I : Nat → Act → World → Prop) (n : Nat) (h₀ : I n a w)
    (round : ∀ n a w, I n a w → c.wp P (Exit.then (fun a' w' => ∃ m, m < n ∧ I m a' w') Q) a w) : (Code.loop c).wp P Q a w := by
  intro b k cs
  have key : ∀ n a w, I n a w → ∃ e a' w', Q e a' w' ∧ Arrives P (lone (b.at a (.code c :: .inLoop c :: k)) cs w) b k cs e a' w' := by
    intro n
    induction n using Nat.strongRecOn with
    | _ n ih =>
      intro a w hI
      obtain ⟨e, a₁, w₁, hq, harr⟩ := round n a w hI b (.inLoop c :: k) cs
      cases e with
      | normal =>
        obtain ⟨m, hlt, hI₁⟩ := hq
        obtain ⟨e₂, a₂, w₂, hq₂, harr₂⟩ := ih m hlt a₁ w₁ hI₁
        exact ⟨e₂, a₂, w₂, hq₂, .of_steps (Steps.trans harr (.one step_inLoop)) harr₂⟩
      | exit id => exact ⟨_, a₁, w₁, hq, .pass (x := .inLoop c) rfl (fun _ _ => .inl (by simp)) harr⟩
      | goto l => exact ⟨_, a₁, w₁, hq, .pass (x := .inLoop c) rfl (fun _ _ => .inl (by simp)) harr⟩
      | ret => exact ⟨_, a₁, w₁, hq, .pass (x := .inLoop c) rfl (fun _ _ => .inl (by simp)) harr⟩
      | panic ch => exact ⟨_, a₁, w₁, hq, .pass (x := .inLoop c) rfl (fun _ _ => .inl (by simp)) harr⟩
      | outgrown => exact ⟨_, a₁, w₁, hq, .pass (x := .inLoop c) rfl (fun _ _ => .inl (by simp)) harr⟩
  obtain ⟨e, a', w', hq, harr⟩ := key n a w h₀
  exact ⟨e, a', w', hq, .of_steps (.one step_loop) harr⟩
theorem wp_cut {x y : Code} {a : Act} (K : Act → World → Prop) (h : x.wp P (Exit.then K Q) a w) (h2 : ∀ a w, K a w → y.wp P Q a w) : (Code.seq x y).wp P Q a w :=
  wp_seq (Code.wp_mono (fun e a w q => by cases e <;> first | exact h2 _ _ q | exact q) h)
end rules

/-! ### Heaps -/
abbrev HL := Nat → Option Obj
def HL.Sub (h : HL) (w : World) : Prop := ∀ i o, h i = some o → w.heap[i]? = some o
def HL.Dj (h k : HL) : Prop := ∀ i, h i = none ∨ k i = none
def HL.le (h k : HL) : Prop := ∀ i o, h i = some o → k i = some o
theorem HL.le.refl (h : HL) : h.le h := fun _ _ e => e
theorem HL.le.trans {a b c : HL} (h : a.le b) (k : b.le c) : a.le c := fun i o e => k i o (h i o e)
/-- An assertion on what is owned (h), beside what is never written again (I). -/
structure SP where
  p : HL → HL → Prop
  mono : ∀ {I I' : HL} {h : HL}, I.le I' → p I h → p I' h
def star (A B : SP) : SP := ⟨fun I h => ∃ h1 h2 : HL, h1.Dj h2 ∧ (∀ i, h i = (h1 i).or (h2 i)) ∧ A.p I h1 ∧ B.p I h2,
  fun hI ⟨h1, h2, a, b, c, d⟩ => ⟨h1, h2, a, b, A.mono hI c, B.mono hI d⟩⟩
def emp : SP := ⟨fun _ _ => True, fun _ _ => trivial⟩
def exS {α : Sort _} (F : α → SP) : SP := ⟨fun I h => ∃ x, (F x).p I h, fun hI ⟨x, h⟩ => ⟨x, (F x).mono hI h⟩⟩
def andS (φ : HL → Prop) (hφ : ∀ I I' : HL, I.le I' → φ I → φ I') (A : SP) : SP := ⟨fun I h => φ I ∧ A.p I h, fun hI h => ⟨hφ _ _ hI h.1, A.mono hI h.2⟩⟩
def big : List SP → SP → SP
  | [], R => R
  | A :: L, R => star A (big L R)
structure Env (w w' : World) : Prop where
  os : w'.os = w.os
  tape : w'.tape = w.tape
  output : w'.output = w.output
  size : w.heap.size ≤ w'.heap.size
theorem Env.refl (w : World) : Env w w := ⟨rfl, rfl, rfl, Nat.le_refl _⟩
theorem Env.trans {a b c : World} (h : Env a b) (k : Env b c) : Env a c := ⟨k.os.trans h.os, k.tape.trans h.tape, k.output.trans h.output, Nat.le_trans h.size k.size⟩
/-- The world w, of which I is never written again, and of which L and R are owned; since w0 nothing has turned outside. -/
structure St (w0 w : World) (I : HL) (L : List SP) (R : SP) : Prop where
  env : Env w0 w
  imm : I.Sub w
  own : ∃ h : HL, (big L R).p I h ∧ h.Sub w ∧ h.Dj I

theorem Opt_or_none {α : Type} {a b : Option α} : a.or b = none ↔ a = none ∧ b = none := by cases a <;> simp
theorem star_left {A B C : SP} {I h : HL} (hh : (star A (star B C)).p I h) : (star B (star A C)).p I h := by
  obtain ⟨ha, h2, hd, he, pa, hb, hc, hd2, he2, pb, pc⟩ := hh
  refine ⟨hb, fun i => (ha i).or (hc i), ?_, ?_, pb, ha, hc, ?_, fun _ => rfl, pa, pc⟩
  · intro i
    rcases hd i with h1 | h1
    · rcases hd2 i with h3 | h3
      · exact .inl h3
      · right; simp [h1, h3]
    · rw [he2, Opt_or_none] at h1
      exact .inl h1.1
  · intro i
    rw [he, he2]
    rcases hd i with h1 | h1
    · rcases hd2 i with h3 | h3 <;> simp [h1, h3]
    · rw [he2, Opt_or_none] at h1
      simp [h1.1, h1.2]
  · intro i
    rcases hd i with h1 | h1
    · exact .inl h1
    · rw [he2, Opt_or_none] at h1
      exact .inr h1.2
theorem star_mono {A A' B B' : SP} {I h : HL} (ha : ∀ h, A.p I h → A'.p I h) (hb : ∀ h, B.p I h → B'.p I h) (hh : (star A B).p I h) : (star A' B').p I h :=
  let ⟨h1, h2, hd, he, pa, pb⟩ := hh; ⟨h1, h2, hd, he, ha _ pa, hb _ pb⟩

section st
variable {w0 w w' : World} {I I' : HL} {L L' : List SP} {R : SP} {A B C : SP}
theorem St.map (h : St w0 w I L R) (f : ∀ k, (big L R).p I k → (big L' R).p I k) : St w0 w I L' R :=
  let ⟨e, i, k, hk, r⟩ := h; ⟨e, i, k, f k hk, r⟩
theorem big_pull (n : Nat) : ∀ {L L' : List SP} {R : SP} {A : SP}, L[n]? = some A → L.eraseIdx n = L' → ∀ {I h : HL}, (big L R).p I h → (big (A :: L') R).p I h := by
  induction n with
  | zero =>
    intro L L' R A h1 h2 I h hh
    cases L with
    | nil => simp at h1
    | cons X L => simp at h1 h2; subst h1; subst h2; exact hh
  | succ n ih =>
    intro L L' R A h1 h2 I h hh
    cases L with
    | nil => simp at h1
    | cons X L =>
      simp at h1 h2; subst h2
      exact star_left (star_mono (fun _ x => x) (fun k hk => ih h1 rfl hk) hh)
/-- The n-th part is brought to the front. -/
theorem St.pull (n : Nat) (h : St w0 w I L R) (h1 : L[n]? = some A) (h2 : L.eraseIdx n = L') : St w0 w I (A :: L') R := h.map fun _ hk => big_pull n h1 h2 hk
theorem St.sub (h : St w0 w I (A :: L) R) : St w0 w I L R := by
  obtain ⟨e, i, k, ⟨h1, h2, hd, he, pa, pb⟩, hs, hj⟩ := h
  have key : ∀ i o, h2 i = some o → k i = some o := fun i o ho => by
    rw [he]; rcases hd i with h | h
    · simp [h, ho]
    · rw [h] at ho; cases ho
  refine ⟨e, i, h2, pb, fun i o ho => hs i o (key i o ho), fun i => ?_⟩
  rcases hj i with h | h
  · left; rw [he, Opt_or_none] at h; exact h.2
  · exact .inr h
theorem St.ex {α : Sort _} {F : α → SP} (h : St w0 w I (exS F :: L) R) : ∃ x, St w0 w I (F x :: L) R := by
  obtain ⟨e, i, k, ⟨h1, h2, hd, he, ⟨x, pa⟩, pb⟩, hs, hj⟩ := h
  exact ⟨x, e, i, k, ⟨h1, h2, hd, he, pa, pb⟩, hs, hj⟩
theorem St.and {φ : HL → Prop} {hφ : ∀ I I' : HL, I.le I' → φ I → φ I'} (h : St w0 w I (andS φ hφ A :: L) R) : φ I ∧ St w0 w I (A :: L) R := by
  obtain ⟨e, i, k, ⟨h1, h2, hd, he, ⟨x, pa⟩, pb⟩, hs, hj⟩ := h
  exact ⟨x, e, i, k, ⟨h1, h2, hd, he, pa, pb⟩, hs, hj⟩
theorem St.impl (h : St w0 w I (A :: L) R) (f : ∀ k, A.p I k → B.p I k) : St w0 w I (B :: L) R := h.map fun _ hk => star_mono f (fun _ x => x) hk
theorem St.toEx {α : Sort _} {F : α → SP} (x : α) (h : St w0 w I (F x :: L) R) : St w0 w I (exS F :: L) R := h.impl fun _ hk => ⟨x, hk⟩
theorem St.toAnd {φ : HL → Prop} {hφ : ∀ I I' : HL, I.le I' → φ I → φ I'} (hx : φ I) (h : St w0 w I (A :: L) R) : St w0 w I (andS φ hφ A :: L) R := h.impl fun _ hk => ⟨hx, hk⟩
theorem St.merge (h : St w0 w I (star A B :: L) R) : St w0 w I (A :: B :: L) R := h.map fun k hk => by
  obtain ⟨hab, hc, hd, he, ⟨ha, hb, hd2, he2, pa, pb⟩, pc⟩ := hk
  refine ⟨ha, fun i => (hb i).or (hc i), ?_, ?_, pa, hb, hc, ?_, fun _ => rfl, pb, pc⟩
  · intro i
    rcases hd2 i with h | h
    · exact .inl h
    · rcases hd i with h3 | h3
      · rw [he2, Opt_or_none] at h3; exact .inl h3.1
      · right; simp [h, h3]
  · intro i
    rw [he, he2]; cases hai : ha i <;> simp [hai]
  · intro i
    rcases hd i with h3 | h3
    · rw [he2, Opt_or_none] at h3; exact .inl h3.2
    · exact .inr h3
theorem St.join (h : St w0 w I (A :: B :: L) R) : St w0 w I (star A B :: L) R := h.map fun k hk => by
  obtain ⟨ha, h2, hd, he, pa, hb, hc, hd2, he2, pb, pc⟩ := hk
  refine ⟨fun i => (ha i).or (hb i), hc, ?_, ?_, ⟨ha, hb, ?_, fun _ => rfl, pa, pb⟩, pc⟩
  · intro i
    rcases hd i with h | h
    · rcases hd2 i with h3 | h3
      · left; simp [h, h3]
      · exact .inr h3
    · rw [he2, Opt_or_none] at h; exact .inr h.2
  · intro i; rw [he, he2]; cases hai : ha i <;> simp [hai]
  · intro i
    rcases hd i with h | h
    · exact .inl h
    · rw [he2, Opt_or_none] at h; exact .inr h.1
theorem St.addEmp (h : St w0 w I L R) : St w0 w I (emp :: L) R := h.map fun k hk => ⟨fun _ => none, k, fun _ => .inl rfl, fun _ => by simp, trivial, hk⟩
theorem St.drawn (h : St w0 w I L R) (n : Nat) : St w0 { w with drawn := n } I L R := ⟨⟨h.env.os, h.env.tape, h.env.output, h.env.size⟩, h.imm, h.own⟩
theorem big_split (L : List SP) : ∀ (L1 : List SP), big L1 (big L R) = big (L1 ++ L) R
  | [] => rfl
  | A :: L1 => by simp only [List.cons_append, big, big_split L L1]
theorem St.split {L1 : List SP} (h : St w0 w I (L1 ++ L) R) : St w0 w I L1 (big L R) := by
  obtain ⟨e, i, k, hk, r⟩ := h
  exact ⟨e, i, k, (big_split L L1).symm ▸ hk, r⟩
theorem St.unsplit {L1 : List SP} (h : St w0 w I L1 (big L R)) : St w0 w I (L1 ++ L) R := by
  obtain ⟨e, i, k, hk, r⟩ := h
  exact ⟨e, i, k, (big_split L L1) ▸ hk, r⟩
theorem big_comm {h : HL} : ∀ (L1 L2 : List SP), (big (L1 ++ L2) R).p I h → (big (L2 ++ L1) R).p I h
  | [], L2, hh => by simpa using hh
  | A :: L1, L2, hh => by
    have h1 : (big (A :: (L2 ++ L1)) R).p I h := star_mono (fun _ x => x) (fun k hk => big_comm L1 L2 hk) hh
    have key : ∀ (L2 : List SP) (h : HL), (big (A :: (L2 ++ L1)) R).p I h → (big (L2 ++ A :: L1) R).p I h := by
      intro L2
      induction L2 with
      | nil => intro h hh; exact hh
      | cons B L2 ih => intro h hh; exact star_mono (fun _ x => x) (fun k hk => ih k hk) (star_left hh)
    exact key L2 h h1
theorem St.comm {L1 : List SP} (h : St w0 w I (L1 ++ L) R) : St w0 w I (L ++ L1) R := h.map fun _ hk => big_comm L1 L hk

/-! ### One block -/
def blk (b : Nat) (o : Obj) : SP := ⟨fun _ h => ∀ i, h i = if i = b then some o else none, fun _ h => h⟩
theorem St.blk_at {b : Nat} {o : Obj} (h : St w0 w I (blk b o :: L) R) : w.heap[b]? = some o := by
  obtain ⟨e, i, k, ⟨h1, h2, hd, he, pa, pb⟩, hs, hj⟩ := h
  exact hs b o (by rw [he, pa b]; simp)
/-- A block that is owned turns. -/
theorem St.put_blk {b : Nat} {o o' : Obj} (h : St w0 w I (blk b o :: L) R) (henv : Env w w') (hb : w'.heap[b]? = some o') (hk : ∀ i, i ≠ b → i < w.heap.size → w'.heap[i]? = w.heap[i]?) :
    St w0 w' I (blk b o' :: L) R := by
  have hbI : I b = none := by
    obtain ⟨e, i, k, ⟨h1, h2, hd, he, pa, pb⟩, hs, hj⟩ := h
    rcases hj b with h | h
    · rw [he, pa b] at h; simp at h
    · exact h
  obtain ⟨e, i, k, ⟨h1, h2, hd, he, pa, pb⟩, hs, hj⟩ := h
  have lt : ∀ {i o}, w.heap[i]? = some o → i < w.heap.size := fun h => (Array.getElem?_eq_some_iff.1 h).1
  refine ⟨e.trans henv, fun j o hj' => ?_, fun i => if i = b then some o' else h2 i, ⟨fun i => if i = b then some o' else none, h2, ?_, ?_, fun _ => rfl, pb⟩, ?_, ?_⟩
  · have h3 := i j o hj'
    rw [hk j (fun e => by rw [e, hbI] at hj'; cases hj') (lt h3)]; exact h3
  · intro j
    by_cases e1 : j = b
    · right; subst e1; rcases hd j with h | h
      · rw [pa j] at h; simp at h
      · exact h
    · left; simp [e1]
  · intro j; by_cases e1 : j = b <;> simp [e1]
  · intro j o1 ho1
    by_cases e1 : j = b
    · subst e1; simp at ho1; subst ho1; exact hb
    · simp [e1] at ho1
      have h3 := hs j o1 (by rw [he, pa j]; simp [e1, ho1])
      rw [hk j e1 (lt h3)]; exact h3
  · intro j
    by_cases e1 : j = b
    · subst e1; exact .inr hbI
    · rcases hj j with h | h
      · left; simp [e1]; rw [he, pa j] at h; simpa [e1] using h
      · exact .inr h
/-- A new block. -/
theorem St.push (h : St w0 w I L R) (o : Obj) (hw : w'.heap = w.heap.push o) (he : w'.os = w.os ∧ w'.tape = w.tape ∧ w'.output = w.output) : St w0 w' I (blk w.heap.size o :: L) R := by
  obtain ⟨e, i, k, pk, hs, hj⟩ := h
  have lt : ∀ {i o}, w.heap[i]? = some o → i < w.heap.size := fun h => (Array.getElem?_eq_some_iff.1 h).1
  have old : ∀ {i o}, w.heap[i]? = some o → w'.heap[i]? = some o := fun {i o} h => by rw [hw, Array.getElem?_push, if_neg (by have := lt h; omega)]; exact h
  have kn : k w.heap.size = none := by
    cases hk : k w.heap.size with
    | none => rfl
    | some o => have := lt (hs _ _ hk); omega
  have In : I w.heap.size = none := by
    cases hk : I w.heap.size with
    | none => rfl
    | some o => have := lt (i _ _ hk); omega
  refine ⟨e.trans ⟨he.1, he.2.1, he.2.2, by rw [hw]; simp⟩, fun j o hj => old (i j o hj), fun i => if i = w.heap.size then some o else k i, ⟨fun i => if i = w.heap.size then some o else none, k, ?_, ?_, fun _ => rfl, pk⟩, ?_, ?_⟩
  · intro j; by_cases e1 : j = w.heap.size
    · right; rw [e1]; exact kn
    · left; simp [e1]
  · intro j; by_cases e1 : j = w.heap.size <;> simp [e1]
  · intro j o1 ho1
    by_cases e1 : j = w.heap.size
    · subst e1; simp at ho1; subst ho1; rw [hw]; simp
    · simp [e1] at ho1; exact old (hs j o1 ho1)
  · intro j; by_cases e1 : j = w.heap.size
    · right; rw [e1]; exact In
    · rcases hj j with h | h
      · left; simp [e1, h]
      · exact .inr h
/-- What is owned is never written again from here on. -/
theorem St.fixed {b : Nat} {o : Obj} (h : St w0 w I (blk b o :: L) R) : ∃ I' : HL, I.le I' ∧ I' b = some o ∧ St w0 w I' L R := by
  obtain ⟨e, i, k, ⟨h1, h2, hd, he, pa, pb⟩, hs, hj⟩ := h
  have hbI : I b = none := by
    rcases hj b with h | h
    · rw [he, pa b] at h; simp at h
    · exact h
  have hle : I.le (fun j => if j = b then some o else I j) := fun j o1 h1 => by
    by_cases e1 : j = b
    · rw [e1, hbI] at h1; cases h1
    · simp [e1, h1]
  refine ⟨fun j => if j = b then some o else I j, hle, by simp, e, fun j o1 hj1 => ?_, h2, (big L R).mono hle pb, ?_, ?_⟩
  · by_cases e1 : j = b
    · subst e1; simp at hj1; subst hj1; exact hs j o (by rw [he, pa j]; simp)
    · simp [e1] at hj1; exact i j o1 hj1
  · intro j o1 ho1
    refine hs j o1 ?_
    rw [he]; rcases hd j with h | h
    · simp [h, ho1]
    · rw [h] at ho1; cases ho1
  · intro j
    by_cases e1 : j = b
    · left; subst e1; rcases hd j with h | h
      · rw [pa j] at h; simp at h
      · exact h
    · rcases hj j with h | h
      · left; rw [he, Opt_or_none] at h; exact h.2
      · right; simp [e1, h]
end st
end Go.V
