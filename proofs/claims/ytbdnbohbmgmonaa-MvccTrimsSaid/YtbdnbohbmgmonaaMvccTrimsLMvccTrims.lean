/- What is read from an epoch on stays: the plain law. -/
import Derived.Test.YtbdnbohbmgmonaaMvccTrimsMvT
set_option linter.unusedVariables false
set_option linter.unusedSimpArgs false
set_option maxRecDepth 100000
namespace Go.Proofs.Ytbdnbohbmgmonaa
open Go Go.V
theorem mvccTrims_plain {a0 : List law11_Ver} {a1 : Int} (o0 : a0.length ≤ maxLen ∧ ∀ x ∈ a0, ok_law11_Ver x) (o1 : (Lit.int .u64 a1).wf = true) : law11_MvccTrims a0 a1 = some true := by
  obtain ⟨s, m, ok, h1, h2⟩ := fill_eq fun x hx => verG_of (o0.2 x hx)
  simp only [law11_MvccTrims, h1, mv_awake, Option.bind_some, Bool.not_true, cond_false]
  cases ok with
  | false => rfl
  | true =>
    have hI := h2 rfl
    obtain ⟨l⟩ := s
    have hm := hI.mlen
    obtain ⟨A, hA, gA⟩ := ats_eq (fun y hy => (hI.xg y hy).1) (show m.length ≤ 1000000 by omega)
    obtain ⟨a, ha⟩ := Int.eq_ofNat_of_zero_le (lit_u64.1 o1).1
    have he : Int.tmod a1 (9:Int) = ((a % 9 : Nat) : Int) := by rw [ha, Int.tmod_eq_emod_of_nonneg (Int.natCast_nonneg a)]; rfl
    have hI2 := inv_trim hI (((a % 9 : Nat) : Int))
    have ht := told_eq hI2 (by omega)
    have ha9 : a % 9 < 9 := Nat.mod_lt _ (by omega)
    simp only [Bool.not_true, cond_false, hA, Option.bind_some, he, trim_eq hI (show 60 ≤ 10000 by omega), reftrim_eq hI (show 60 ≤ 10000 by omega), ht]
    have hAl := gA.len
    refine loop_range (fun i => (i : Int)) A.length true (fun i hi => ?_) (by simp [law11_MvccTrims_l0, inrO])
    have hF := gA.f _ (List.getElem_mem hi)
    simp only [law11_MvccTrims_l0, lt_t hi, cond_true, he]
    refine loop_range (fun j => ((a % 9 + j : Nat) : Int)) (9 - a % 9) _ (fun j hj => ?_) ?_
    · obtain ⟨o, g1, _, g3⟩ := got_same hI (by omega) hF (((a % 9 + j : Nat) : Int))
      have g1' : isTop (Lm (fRank A[i]) m) (((a % 9 + j : Nat) : Int)) o := by
        obtain ⟨p, q1, q2⟩ := refget_eq hI.xg (show m.length ≤ 1000000 by omega) hF (((a % 9 + j : Nat) : Int))
        have : o = p := top_one (rowV_rise hI.rise hI.vr _) (row_perm hI _) g1 q1
        rw [this]; exact q1
      obtain ⟨p, q1, q2⟩ := trim_got hI (e := ((a % 9 : Nat) : Int)) (by omega) g1'
      have g4 := get_is hI2 (by omega) hF q1
      have d1 : decide (((a % 9 + j : Nat) : Int) < (9:Int)) = true := by simp; omega
      have e2 : IntKind.u64.wrap (((a % 9 + j : Nat) : Int) + (1:Int)) = ((a % 9 + (j + 1) : Nat) : Int) := by rw [wrap_u64_eq]; omega
      simp only [law11_MvccTrims_l1, d1, cond_true, geto_lt hi, Option.bind_some, g4, g3, q2, one_got, Bool.not_true, law11_MvccTrims_j2, cond_false, e2]
    · have d1 : decide (((a % 9 + (9 - a % 9) : Nat) : Int) < (9:Int)) = false := by simp; omega
      simp only [law11_MvccTrims_l1, d1, cond_false, inrO, Option.map_some, wrap_succ (show i ≤ 4294967295 by omega)]
end Go.Proofs.Ytbdnbohbmgmonaa
