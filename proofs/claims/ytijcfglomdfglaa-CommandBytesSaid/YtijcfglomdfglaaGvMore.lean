/- Small rules for what a program writes out; generic over the program. -/
import Derived.Test.YtijcfglomdfglaaGvAppend
import Derived.Deep.Quiet
set_option linter.unusedVariables false
set_option linter.unusedSimpArgs false
namespace Go.V
open Go

def allOne : List Value → Bool
  | [] => true
  | v :: vs => v.oneCell' && allOne vs
theorem ones_of {l : List Value} (h : allOne l = true) : ∀ v ∈ l, v.oneCell' = true := by
  induction l with
  | nil => simp
  | cons a l ih =>
    simp only [allOne, Bool.and_eq_true] at h
    intro v hv
    rcases List.mem_cons.1 hv with rfl | hv
    · exact h.1
    · exact ih h.2 v hv
def tyInt (k : IntKind) : Ty Int := ⟨1, fun _ x cs => cs = [.int k x], fun h => by subst h; rfl, fun _ h => h, fun h => by subst h; exact ones_of rfl⟩
def tyF64 : Ty Nat := ⟨1, fun _ x cs => cs = [.float .f64 x], fun h => by subst h; rfl, fun _ h => h, fun h => by subst h; exact ones_of rfl⟩
def tyF2 : Ty (Nat × Nat) := ⟨2, fun _ x cs => cs = [.float .f64 x.1, .float .f64 x.2], fun h => by subst h; rfl, fun _ h => h, fun h => by subst h; exact ones_of rfl⟩
def tySl {α : Type} (E : Ty α) : Ty (List α) := ⟨1, fun ρ x cs => ∃ v, cs = [v] ∧ Sl E ρ v x ∧ v.oneCell' = true, fun ⟨_, h, _⟩ => by subst h; rfl, fun f ⟨v, h, k, o⟩ => ⟨v, h, k.mono f, o⟩, fun ⟨v, h, _, o⟩ => by subst h; exact ones_of (by simp [allOne, o])⟩
theorem flat_int {k : IntKind} : (tyInt k).Flat := fun h => h
theorem one_of_sliceV {v : Value} {n : Nat} (h : SliceV v n) : v.oneCell' = true := by
  obtain ⟨a, cap, rfl, _⟩ := h; rfl

/-! ### What the models are made of -/
def gd {α : Type} (b : Bool) (k : Option α) : Option α := bif b then k else none
theorem gd_some {α : Type} {b : Bool} {k : Option α} {r : α} (h : gd b k = some r) : b = true ∧ k = some r := by cases b <;> simp_all [gd]
theorem bind_some {α β : Type} {x : Option α} {k : α → Option β} {r : β} (h : x.bind k = some r) : ∃ t, x = some t ∧ k t = some r := by
  cases x with
  | none => cases h
  | some t => exact ⟨t, rfl, h⟩
theorem bif_t {α : Type} {b : Bool} {x y : Option α} {r : α} (hb : b = true) (h : (bif b then x else y) = some r) : x = some r := by subst hb; exact h
theorem bif_f {α : Type} {b : Bool} {x y : Option α} {r : α} (hb : b = false) (h : (bif b then x else y) = some r) : y = some r := by subst hb; exact h
def geto {α : Type} (xs : List α) (i : Int) : Option α := bif decide (0 ≤ i) then xs[i.toNat]? else none
theorem geto_some {α : Type} {xs : List α} {i : Int} {x : α} (h : geto xs i = some x) : 0 ≤ i ∧ i < (xs.length : Int) ∧ xs[i.toNat]? = some x := by
  unfold geto at h
  cases hb : decide (0 ≤ i) with
  | false => simp [hb] at h
  | true =>
    simp only [hb, cond_true] at h
    have h0 : 0 ≤ i := by simpa using hb
    have := (List.getElem?_eq_some_iff.1 h).1
    exact ⟨h0, by omega, h⟩
def loopN {S R : Type} (body : S → Option (S ⊕ R)) : Nat → S → Option R
  | 0, _ => none
  | n + 1, s => (body s).bind fun x => match x with | .inl s' => loopN body n s' | .inr r => some r
def LR {S R : Type} (g : S → Option R) (x : S ⊕ R) (r : R) : Prop := match x with | .inl s => g s = some r | .inr y => y = r
open Classical in
/-- A loop: what it comes to, if it ends. -/
noncomputable def loopO {S R : Type} (body : S → Option (S ⊕ R)) (s : S) : Option R :=
  if h : ∃ r n, loopN body n s = some r then some h.choose else none
theorem loopO_some {S R : Type} {body : S → Option (S ⊕ R)} {s : S} {r : R} (h : loopO body s = some r) : ∃ n, loopN body n s = some r := by
  unfold loopO at h
  split at h
  · rename_i hex
    obtain ⟨n, hn⟩ := hex.choose_spec
    simp only [Option.some.injEq] at h
    exact ⟨n, h ▸ hn⟩
  · cases h
theorem loopN_mono {S R : Type} {body : S → Option (S ⊕ R)} : ∀ {n m : Nat} {s : S} {r : R}, loopN body n s = some r → n ≤ m → loopN body m s = some r := by
  intro n
  induction n with
  | zero => intro m s r h; cases h
  | succ n ih =>
    intro m s r h hm
    obtain ⟨m, rfl⟩ : ∃ k, m = k + 1 := ⟨m - 1, by omega⟩
    simp only [loopN] at h ⊢
    obtain ⟨x, hx, h⟩ := bind_some h
    rw [hx]
    cases x with
    | inl s' => exact ih h (by omega)
    | inr r => exact h
theorem loopO_of {S R : Type} {body : S → Option (S ⊕ R)} {s : S} {r : R} {n : Nat} (h : loopN body n s = some r) : loopO body s = some r := by
  unfold loopO
  have hex : ∃ r n, loopN body n s = some r := ⟨r, n, h⟩
  rw [dif_pos hex]
  obtain ⟨m, hm⟩ := hex.choose_spec
  have h1 := loopN_mono hm (Nat.le_max_left m n)
  have h2 := loopN_mono h (Nat.le_max_right m n)
  rw [h1] at h2
  exact h2
theorem loopO_eq {S R : Type} (body : S → Option (S ⊕ R)) (s : S) : loopO body s = (body s).bind fun x => match x with | .inl s' => loopO body s' | .inr r => some r := by
  cases hb : body s with
  | none =>
    rw [Option.bind_none]
    cases hl : loopO body s with
    | none => rfl
    | some r =>
      obtain ⟨n, hn⟩ := loopO_some hl
      cases n with
      | zero => cases hn
      | succ n => simp [loopN, hb] at hn
  | some x =>
    rw [Option.bind_some]
    cases x with
    | inr r => exact loopO_of (n := 1) (by simp [loopN, hb])
    | inl s' =>
      show _ = loopO body s'
      cases hl : loopO body s' with
      | some r =>
        obtain ⟨n, hn⟩ := loopO_some hl
        exact loopO_of (n := n + 1) (by simp [loopN, hb, hn])
      | none =>
        cases hl2 : loopO body s with
        | none => rfl
        | some r =>
          obtain ⟨n, hn⟩ := loopO_some hl2
          cases n with
          | zero => cases hn
          | succ n =>
            simp only [loopN, hb, Option.bind_some] at hn
            rw [loopO_of hn] at hl
            cases hl
theorem loopN_some {S R : Type} {body : S → Option (S ⊕ R)} {n : Nat} {s : S} {r : R} (h : loopN body n s = some r) : ∃ m x, n = m + 1 ∧ body s = some x ∧ LR (loopN body m) x r := by
  cases n with
  | zero => cases h
  | succ m =>
    simp only [loopN] at h
    obtain ⟨x, hx, h⟩ := bind_some h
    refine ⟨m, x, rfl, hx, ?_⟩
    cases x with
    | inl s' => exact h
    | inr y => exact Option.some.inj h
def inrO {S R : Type} (x : Option R) : Option (S ⊕ R) := x.map Sum.inr
theorem inrO_some {S R : Type} {x : Option R} {y : S ⊕ R} (h : inrO x = some y) : ∃ r, x = some r ∧ y = .inr r := by
  cases x with
  | none => cases h
  | some r => exact ⟨r, rfl, (Option.some.inj h).symm⟩
theorem some_inj {α : Type} {x y : α} (h : some x = some y) : x = y := Option.some.inj h
def bAnd (k : IntKind) (a b : Int) : Int := k.wrap ((BitVec.ofInt k.bits a &&& BitVec.ofInt k.bits b).toNat : Int)
def bOr (k : IntKind) (a b : Int) : Int := k.wrap ((BitVec.ofInt k.bits a ||| BitVec.ofInt k.bits b).toNat : Int)
def bXor (k : IntKind) (a b : Int) : Int := k.wrap ((BitVec.ofInt k.bits a ^^^ BitVec.ofInt k.bits b).toNat : Int)
def bAndNot (k : IntKind) (a b : Int) : Int := k.wrap ((BitVec.ofInt k.bits a &&& ~~~BitVec.ofInt k.bits b).toNat : Int)
def iShl (k : IntKind) (a b : Int) : Int := k.wrap (a * 2 ^ (min b.toNat k.bits))
def iShr (k : IntKind) (a b : Int) : Int := a.fdiv (2 ^ (min b.toNat k.bits))
def fEq (a b : Nat) : Bool := FloatKind.f64.format.order a b == some .eq
def fNe (a b : Nat) : Bool := FloatKind.f64.format.order a b != some .eq
def fLt (a b : Nat) : Bool := FloatKind.f64.format.order a b == some .lt

section
variable {P : Program} {ρ : Operand → Value} {ops : Array Oper} {Q : Exit → Act → World → Prop} {rest : List Oper} {o : Oper} {N : Nat} {σ : Nat → Value} {w w' : World} {v : Value} {d : Nat}
  {dd : Option Tmp} {ty : TypeId} {ps : String} {af : Array Edge} {g : Option (Nat × Bool)}
theorem wp_if {c : Operand} {x y : Code} {t : Bool} (hc : ev N σ c = .bool t) (ht : t = true → x.wp P Q (Fr N σ) w) (hf : t = false → y.wp P Q (Fr N σ) w) : (Code.cond c x y).wp P Q (Fr N σ) w :=
  wp_cond_split (t := t) (by rw [eval_Fr]; exact hc) ht hf
theorem wp_ift {c : Operand} {x y : Code} (hc : ev N σ c = .bool true) (ht : x.wp P Q (Fr N σ) w) : (Code.cond c x y).wp P Q (Fr N σ) w := wp_if hc (fun _ => ht) (fun h => by cases h)
theorem wp_iff {c : Operand} {x y : Code} (hc : ev N σ c = .bool false) (hf : y.wp P Q (Fr N σ) w) : (Code.cond c x y).wp P Q (Fr N σ) w := wp_if hc (fun h => by cases h) (fun _ => hf)
theorem then_n {K : Act → World → Prop} {a : Act} (h : K a w) : Exit.then K Q .normal a w := h
theorem then_x {K : Act → World → Prop} {a : Act} {i : Nat} (h : Q (.exit i) a w) : Exit.then K Q (.exit i) a w := h
theorem then_r {K : Act → World → Prop} {a : Act} (h : Q .ret a w) : Exit.then K Q .ret a w := h
theorem blk_n {a : Act} {i : Nat} (h : Q .normal a w) : Exit.inBlock i Q .normal a w := h
theorem blk_x {a : Act} {i : Nat} (h : Q .normal a w) : Exit.inBlock i Q (.exit i) a w := by simp only [Exit.inBlock, if_true]; exact h
theorem blk_r {a : Act} {i : Nat} (h : Q .ret a w) : Exit.inBlock i Q .ret a w := h

/-- A choice by a truth that is known. -/
theorem x_pick_t {c x y : Operand} {b : Bool} (hb : b = true) (hc : ρ c = .bool b) (hx : ρ x = v) : (execOp ρ ⟨dd, .pick c x y, ty, ps, af, g⟩).run P w = .ok (.value v) w := by
  subst hb; simp [execOp, hc, hx, asBool, Result.andThen]
theorem x_pick_f {c x y : Operand} {b : Bool} (hb : b = false) (hc : ρ c = .bool b) (hy : ρ y = v) : (execOp ρ ⟨dd, .pick c x y, ty, ps, af, g⟩).run P w = .ok (.value v) w := by
  subst hb; simp [execOp, hc, hy, asBool, Result.andThen]
theorem x_shl {t t2 : TypeId} {x y : Operand} {k k2 : IntKind} {a b : Int} (h0 : 0 ≤ b) (hx : ρ x = .int k a) (hy : ρ y = .int k2 b) : (execOp ρ ⟨dd, .binOp .shl t x y t2, ty, ps, af, g⟩).run P w = .ok (.value (.int k (iShl k a b))) w := by
  refine x_val ?_
  rw [hx, hy]
  have : ¬ b < 0 := by omega
  simp only [eqGuard, binOp, Op.shift, this, if_false, Sem.run_bind, Sem.run_ite]
  rfl
theorem x_shr {t t2 : TypeId} {x y : Operand} {k k2 : IntKind} {a b : Int} (h0 : 0 ≤ b) (hx : ρ x = .int k a) (hy : ρ y = .int k2 b) : (execOp ρ ⟨dd, .binOp .shr t x y t2, ty, ps, af, g⟩).run P w = .ok (.value (.int k (iShr k a b))) w := by
  refine x_val ?_
  rw [hx, hy]
  have : ¬ b < 0 := by omega
  simp only [eqGuard, binOp, Op.shift, this, if_false, Sem.run_bind, Sem.run_ite]
  rfl
theorem x_quo {t t2 : TypeId} {x y : Operand} {k : IntKind} {a b : Int} (h0 : (b == 0) = false) (hx : ρ x = .int k a) (hy : ρ y = .int k b) : (execOp ρ ⟨dd, .binOp .quo t x y t2, ty, ps, af, g⟩).run P w = .ok (.value (.int k (k.wrap (a.tdiv b)))) w := by
  refine x_val ?_
  rw [hx, hy]
  have : ¬ b = 0 := by simpa using h0
  simp only [eqGuard, binOp, Op.intDiv, this, if_false, Sem.run_bind, Sem.run_ite, ne_eq, not_true]
  rfl
theorem x_rem {t t2 : TypeId} {x y : Operand} {k : IntKind} {a b : Int} (h0 : (b == 0) = false) (hx : ρ x = .int k a) (hy : ρ y = .int k b) : (execOp ρ ⟨dd, .binOp .rem t x y t2, ty, ps, af, g⟩).run P w = .ok (.value (.int k (a.tmod b))) w := by
  refine x_val ?_
  rw [hx, hy]
  have : ¬ b = 0 := by simpa using h0
  simp only [eqGuard, binOp, Op.intDiv, this, if_false, Sem.run_bind, Sem.run_ite, ne_eq, not_true]
  rfl
/-! ### What a function hands back -/
def RV (P : Program) (N : Nat) (σ : Nat → Value) (w : World) : ResultVar → Value → Prop
  | .tmp t, v => ev N σ (.tmp t) = v
  | .cell a t, v => ∃ ad, ev N σ (.tmp a) = .pointer (some ad) ∧ (loadVar t ad).run P w = .ok v w
def RVs (P : Program) (N : Nat) (σ : Nat → Value) (w : World) : List ResultVar → List Value → Prop
  | [], [] => True
  | r :: rs, v :: vs => RV P N σ w r v ∧ RVs P N σ w rs vs
  | _, _ => False
def retVal : List Value → Value
  | [v] => v
  | vs => .tuple vs.toArray
def rvF (tmps : Array Value) : ResultVar → Sem Value
  | .tmp t => pure (tmps.getD t undef)
  | .cell a t => do loadVar t (← asAddr (tmps.getD a undef))
theorem results_rvF (fn : Func) (tmps : Array Value) : results fn tmps = (fn.results.mapM (rvF tmps) >>= fun vs => pure (if h : vs.size = 1 then vs[0] else .tuple vs)) := by
  unfold results
  congr 1
theorem run_rvF {r : ResultVar} {v : Value} (h : RV P N σ w r v) : (rvF (Fr N σ).tmps r).run P w = .ok v w := by
  have key : ∀ t, (Fr N σ).tmps.getD t undef = ev N σ (.tmp t) := fun t => congrFun (eval_Fr N σ) (.tmp t)
  cases r with
  | tmp t => simp only [rvF, key]; rw [show ev N σ (.tmp t) = v from h]; rfl
  | cell a t =>
    obtain ⟨ad, h3, h4⟩ := h
    simp only [rvF, key, h3, asAddr, Sem.run_bind, Sem.run_pure, Result.andThen, h4]
theorem run_mapM (rs : List ResultVar) : ∀ (vs : List Value), RVs P N σ w rs vs → (rs.mapM (rvF (Fr N σ).tmps)).run P w = .ok vs w := by
  induction rs with
  | nil => intro vs h; cases vs <;> simp_all [RVs]
  | cons r rs ih =>
    intro vs h
    cases vs with
    | nil => simp [RVs] at h
    | cons v vs =>
      obtain ⟨h1, h2⟩ := h
      rw [List.mapM_cons, Sem.run_bind, run_rvF h1, Result.andThen_ok, Sem.run_bind, ih vs h2]
      rfl
theorem ret_vals {fn : Func} {rs : List ResultVar} {vs : List Value} (hr : fn.results = rs.toArray) (hv : RVs P N σ w rs vs) : (results fn (Fr N σ).tmps).run P w = .ok (retVal vs) w := by
  rw [results_rvF, hr, Sem.run_bind, List.mapM_toArray, Sem.run_map, run_mapM rs vs hv]
  simp only [Result.andThen, Sem.run_pure]
  congr 1
  match vs with
  | [] => rfl
  | [v] => rfl
  | v :: u :: vs => simp [retVal]
theorem post_ret {fn : Func} {R : Ending → World → Prop} {rs : List ResultVar} {vs : List Value} (hr : fn.results = rs.toArray) (hv : RVs P N σ w rs vs) (h : R (.returned (retVal vs)) w) : bodyPost P fn R .ret (Fr N σ) w :=
  ⟨rfl, _, ret_vals hr hv, h⟩
theorem post_end {fn : Func} {R : Ending → World → Prop} {rs : List ResultVar} {vs : List Value} (hr : fn.results = rs.toArray) (hv : RVs P N σ w rs vs) (h : R (.returned (retVal vs)) w) : bodyPost P fn R .normal (Fr N σ) w :=
  ⟨rfl, _, ret_vals hr hv, h⟩
theorem rv_cell {a t : Nat} {ad : Addr} {cs : List Value} (h : ev N σ (.tmp a) = .pointer (some ad)) (hA : ∀ w, (isAgg t).run P w = .ok true w) (hs : ∀ w, (sizeOf t).run P w = .ok cs.length w)
    (hc : ∀ j v, cs[j]? = some v → w.cell? (ad.add j) = some v) : RV P N σ w (.cell a t) (.agg cs.toArray) := by
  refine ⟨ad, h, ?_⟩
  simp only [loadVar, Sem.run_bind, Result.andThen, hA, if_true, Sem.run_ite, hs, run_loadCells_list w ad cs hc, Sem.run_pure]
/-! ### A region that draws its order, and is quiet -/
variable {C : World → Prop} {Q' : Act → Prop}
theorem wq_region {id : Nat} {l : List Oper} {a : Act} (C : World → Prop) (hm : P.follows .mixedOrders = true) (hB : Region.lexB .any l.toArray = true) (hC : C { w with drawn := w.drawn + 1 })
    (h : wpQuiet P l.toArray C (fun a' => ∀ w', C w' → Q .normal a' w') l a) : (Code.region id l.toArray true).wp P Q a w :=
  wp_region_quiet (C := C) hm hB hC (by simpa using h)
theorem wq_run (hw : Region.wanted o (yielded ops (Fr N σ).tmps) = true) (hd : o.dst = some d) (h : ∀ w, C w → (execOp (ev N σ) o).run P w = .ok (.value v) w) (k : wpQuiet P ops C Q' rest (Fr N (upd σ d v))) :
    wpQuiet P ops C Q' (o :: rest) (Fr N σ) := by
  unfold wpQuiet
  rw [if_pos hw]
  refine ⟨v, fun w hw => ?_, by rw [hd, put_Fr]; exact k⟩
  unfold Oper.quietAt
  rw [eval_Fr, h w hw]
  exact ⟨rfl, rfl⟩
theorem wq_off (hw : Region.wanted o (yielded ops (Fr N σ).tmps) = false) (hd : o.dst = some d) (k : wpQuiet P ops C Q' rest (Fr N (upd σ d undef))) : wpQuiet P ops C Q' (o :: rest) (Fr N σ) := by
  unfold wpQuiet
  rw [if_neg (by rw [hw]; exact Bool.false_ne_true), hd, put_Fr]
  exact k
theorem wq_nil (h : Q' (Fr N σ)) : wpQuiet P ops C Q' [] (Fr N σ) := h
end
end Go.V
