/- Two values of a struct of whole numbers: are they one? Generic over the program. -/
import Derived.Test.YtijcfglomdfglaaGvSlice
set_option linter.unusedVariables false
set_option linter.unusedSimpArgs false
namespace Go.V
open Go
section
variable {P : Program} {ρ : Operand → Value} {w : World} {dd : Option Tmp} {ty : TypeId} {ps : String} {af : Array Edge} {g : Option (Nat × Bool)}
theorem eq_int {t : TypeId} {k k' : IntKind} {a b : Int} (h : P.underlying t = some (.int k')) (d : Nat) (w : World) : (Op.equalIn (d + 1) t (.int k a) (.int k b)).run P w = .ok (a == b) w := by
  have hu : ∀ w : World, (underlying t).run P w = .ok (.int k') w := fun w => by simp [underlying, h]
  simp [Op.equalIn, Sem.run_bind, hu, Result.andThen]
theorem eq_agg2 {t : TypeId} {F0 F1 : Field} {k0 k1 j0 j1 : IntKind} {a0 a1 b0 b1 : Int} (ht : P.underlying t = some (.struct #[F0, F1])) (n0 : (F0.name == "_") = false) (n1 : (F1.name == "_") = false) (hs : P.stoodInHeld t = false)
    (u0 : P.underlying F0.type = some (.int j0)) (u1 : P.underlying F1.type = some (.int j1))
    (p0 : ∀ (x y : Value) (w : World), (part F0.type #[x, y] F0.offset).run P w = .ok x w) (p1 : ∀ (x y : Value) (w : World), (part F1.type #[x, y] F1.offset).run P w = .ok y w) (d : Nat) (w : World) :
    (Op.equalIn (d + 2) t (.agg #[.int k0 a0, .int k1 a1]) (.agg #[.int k0 b0, .int k1 b1])).run P w = .ok ((a0 == b0) && (a1 == b1)) w := by
  have hu : ∀ w : World, (underlying t).run P w = .ok (.struct #[F0, F1]) w := fun w => by simp [underlying, ht]
  have m0 : F0.name ≠ "_" := by simpa using n0
  have m1 : F1.name ≠ "_" := by simpa using n1
  rw [Op.equalIn]
  cases h0 : (a0 == b0) <;> cases h1 : (a1 == b1) <;>
    simp [hu, hs, run_program, m0, m1, p0, p1, eq_int u0, eq_int u1, Sem.run_bind, Result.andThen, h0, h1]
variable {t t2 : TypeId} {x y : Operand} {F0 F1 : Field} {k0 k1 j0 j1 : IntKind} {a0 a1 b0 b1 : Int}
theorem x_aggne2 (hx : ρ x = .agg #[.int k0 a0, .int k1 a1]) (hy : ρ y = .agg #[.int k0 b0, .int k1 b1]) (hg : P.eqGuardType P.depth t = false) (ht : P.underlying t = some (.struct #[F0, F1])) (n0 : (F0.name == "_") = false) (n1 : (F1.name == "_") = false) (hs : P.stoodInHeld t = false)
    (u0 : P.underlying F0.type = some (.int j0)) (u1 : P.underlying F1.type = some (.int j1))
    (p0 : ∀ (x y : Value) (w : World), (part F0.type #[x, y] F0.offset).run P w = .ok x w) (p1 : ∀ (x y : Value) (w : World), (part F1.type #[x, y] F1.offset).run P w = .ok y w) :
    (execOp ρ ⟨dd, .binOp .neq t x y t2, ty, ps, af, g⟩).run P w = .ok (.value (.bool (!((a0 == b0) && (a1 == b1))))) w := by
  refine x_val ?_
  rw [hx, hy]
  have he := fun w => eq_agg2 (k0 := k0) (k1 := k1) (a0 := a0) (a1 := a1) (b0 := b0) (b1 := b1) ht n0 n1 hs u0 u1 p0 p1 9998 w
  simp [eqGuard, binOp, Op.equal, Op.maxDepth, Sem.run_bind, run_program, hg, he, Result.andThen]
end
end Go.V
