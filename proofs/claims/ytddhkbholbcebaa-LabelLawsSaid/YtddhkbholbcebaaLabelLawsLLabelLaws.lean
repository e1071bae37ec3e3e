/- Joins and meets of any labels: the plain law. -/
import Derived.Test.YtddhkbholbcebaaLabelLawsLbL
set_option linter.unusedVariables false
set_option linter.unusedSimpArgs false
set_option maxRecDepth 100000
namespace Go.Proofs.Ytddhkbholbcebaa
open Go Go.V
theorem labelLaws_plain {a0 : Int} {a1 : List Int} {a2 a3 a4 : Int} (o0 : (Lit.int .u8 a0).wf = true) (o1 : a1.length ≤ maxLen ∧ ∀ x ∈ a1, (Lit.int .u8 x).wf = true) (o2 : (Lit.int .u8 a2).wf = true) (o3 : (Lit.int .u8 a3).wf = true) (o4 : (Lit.int .u8 a4).wf = true) : law03_LabelLaws a0 a1 a2 a3 a4 = some true := by
  unfold law03_LabelLaws
  simp only [lb_awake, Option.bind_some, Bool.not_true, cond_false]
  obtain ⟨us, h, hw, h1, _⟩ := order_any (lit_u8.1 o0) o1.1
  obtain ⟨r, c, h2, _, h3⟩ := any_told hw
  simp only [h, h2, Option.bind_some]
  rcases h3 with ⟨hc, rfl⟩ | ⟨rfl, rfl, _, hn, hP, hJ, _⟩
  · have e2 : (c != (0:Int)) = true := by simpa using hc
    rw [e2]; rfl
  have e0 : ((0:Int) != (0:Int)) = false := rfl
  have hpos : (!((us.length : Int) == (0:Int))) = true := by
    have e : ((us.length : Int) == (0:Int)) = false := beq_eq_false_iff_ne.2 (by omega)
    rw [e]; rfl
  have arg : ∀ x : Int, (Lit.int .u8 x).wf = true → ∃ k : Nat, k < us.length ∧ Int.tmod (IntKind.i64.wrap x) (us.length : Int) = (k : Int) := fun x hx => by
    obtain ⟨g1, g2⟩ := lit_u8.1 hx
    obtain ⟨n, rfl⟩ := Int.eq_ofNat_of_zero_le g1
    refine ⟨n % us.length, Nat.mod_lt _ (by omega), ?_⟩
    rw [show IntKind.i64.wrap (n : Int) = (n : Int) by rw [wrap_i64] <;> omega]
    exact tmod_nat
  obtain ⟨a, ha, ea⟩ := arg a2 o2
  obtain ⟨b, hb, eb⟩ := arg a3 o3
  obtain ⟨c, hc, ec⟩ := arg a4 o4
  simp only [e0, cond_false, len_eqL, Option.bind_some, gd_true hpos, ea, eb, ec]
  obtain ⟨j, j1, jab⟩ := jI_is hJ ha hb
  obtain ⟨m, m1, mab⟩ := mI_is hJ ha hb
  obtain ⟨j', j1', jba⟩ := jI_is hJ hb ha
  obtain ⟨m', m1', mba⟩ := mI_is hJ hb ha
  have ej : j' = j := isJ_one hP jba jab fun x hx => And.comm
  have em : m' = m := isM_one hP mba mab fun x hx => And.comm
  subst ej; subst em
  obtain ⟨p, p1, pjc⟩ := jI_is hJ jab.1 hc
  obtain ⟨q, q1, jbc⟩ := jI_is hJ hb hc
  obtain ⟨p', p1', paq⟩ := jI_is hJ ha jbc.1
  have ep : p' = p := isJ_one hP paq pjc fun x hx => by
    rw [isJ_up hP hb hc jbc hx, isJ_up hP ha hb jab hx]
    exact and_assoc.symm
  subst ep
  obtain ⟨s, s1, smc⟩ := mI_is hJ mab.1 hc
  obtain ⟨t, t1, mbc⟩ := mI_is hJ hb hc
  obtain ⟨s', s1', sat⟩ := mI_is hJ ha mbc.1
  have es : s' = s := isM_one hP sat smc fun x hx => by
    rw [isM_dn hP hb hc mbc hx, isM_dn hP ha hb mab hx]
    exact and_assoc.symm
  subst es
  obtain ⟨u, u1, jam⟩ := jI_is hJ ha mab.1
  have eu : u = a := ord_anti hP jam.1 ha (jam.2.2.2 a ha (ord_refl hP ha) mab.2.1) jam.2.1
  subst eu
  obtain ⟨v, v1, maj⟩ := mI_is hJ ha jab.1
  have ev : v = u := ord_anti hP maj.1 ha maj.2.1 (maj.2.2.2 u ha (ord_refl hP ha) jab.2.1)
  subst ev
  have hsl := srt_len hn
  have hl0 : 0 < (srt us).length := by omega
  have hl1 : us.length - 1 < (srt us).length := by omega
  have hbot : label_Lattice_Bottom (some (latF us)) = some (((srt us)[0] : Nat) : Int) := by
    show ((geto (up (srt us)) ((0 : Nat) : Int)).bind fun x => some x) = _
    rw [get_srt hl0]; rfl
  have w1 : IntKind.i64.wrap ((us.length : Int) - (1:Int)) = ((us.length - 1 : Nat) : Int) := wrap_sub (a := us.length) (b := 1) (by omega) (by omega)
  have htop : label_Lattice_Top (some (latF us)) = some (((srt us)[us.length - 1] : Nat) : Int) := by
    show ((geto (up (srt us)) (IntKind.i64.wrap (((up (srt us)).length : Int) - (1:Int)))).bind fun x => some x) = _
    have e : ((up (srt us)).length : Int) = (us.length : Int) := by rw [up_len, hsl]
    rw [e, w1, get_srt hl1]; rfl
  have hb0 := srt_mem.1 (List.getElem_mem hl0)
  have hb1 := srt_mem.1 (List.getElem_mem hl1)
  have hleq : (le us v b == (((j' : Nat) : Int) == ((b : Nat) : Int))) = true := by
    rw [beq_iff_eq, Bool.eq_iff_iff, beq_iff_eq]
    constructor
    · intro g
      have : j' = b := ord_anti hP jab.1 hb (jab.2.2.2 b hb g (ord_refl hP hb)) jab.2.2.1
      omega
    · intro g
      have : j' = b := by omega
      have := jab.2.1
      subst b; exact this
  simp only [joinL_in ha hb, meetL_in ha hb, joinL_in hb ha, meetL_in hb ha, j1, m1, j1', m1', Option.bind_some, BEq.rfl, cond_true, joinL_in jab.1 hc, p1, joinL_in hb hc, q1, joinL_in ha jbc.1, p1', meetL_in mab.1 hc, s1, meetL_in hb hc, t1, meetL_in ha mbc.1, s1', joinL_in ha mab.1, u1, meetL_in ha jab.1, v1, leqL_in hw ha hb, hleq, hbot, leqL_in hw hb0 ha, bottom_le hP hJ h1 hn hl0 ha, htop, leqL_in hw ha hb1, top_ge hP hJ h1 hn hl1 ha, rank_in ha, rank_in hb]
  cases hle : le us v b with
  | false => rfl
  | true =>
    have := ps_le hP hn ha hb hle
    simp [this]
end Go.Proofs.Ytddhkbholbcebaa
