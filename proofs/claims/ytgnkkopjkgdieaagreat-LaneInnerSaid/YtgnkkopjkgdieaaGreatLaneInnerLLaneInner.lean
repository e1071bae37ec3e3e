/- What is released isn't decided by an error: the plain law. -/
import Derived.Test.YtgnkkopjkgdieaaGreatLaneInnerLnA
import Derived.Test.YtgnkkopjkgdieaaGreatLaneInnerSesP
import Derived.Test.YtgnkkopjkgdieaaGreatLaneInnerA
set_option linter.unusedVariables false
set_option linter.unusedSimpArgs false
set_option maxRecDepth 100000
namespace Go.Proofs.YtgnkkopjkgdieaaGreat
open Go Go.V
def lnS (w e : Int) (t : List session_row) (d : List api_Decision) : lane_State := { wide := w, epoch := e, store := some { rows := [] }, locks := some { l := [] }, last := some { l := t }, book := some { l := [] }, open_ := d, out := [], used := [] }
def cmdD (S q E ep sh : Int) : api_Command := { Kind := 4, ID := { Session := S, Seq := q }, Epoch := ep, Index := 0, E := 0, Hold := zero_api_Hold, Writes := [], R := { E := E, Epoch := 0, Index := 0, Gots := [], Scans := [] }, Shards := sh, Parts := [], Rule := zero_api_Rule, On := false }
theorem in_a {S q : Int} (h : decide (S ≥ 9223372036854775808) = true) (i : Int) : lane_State_Apply (some (lnS 0 1 [] [])) i (cmdD S q 0 9 0) = some (zero_api_Effect, some (lnS 0 1 [] [])) := by
  show (joinO (bif decide (S ≥ 9223372036854775808) then inrO (some (zero_api_Effect, some (lnS 0 1 [] []))) else some (Sum.inl ())) (lane_State_decide_j1 (lnS 0 1 [] []) (cmdD S q 0 9 0) i)).bind _ = _
  rw [h]; rfl
theorem in_b {S q : Int} (h : decide (S ≥ 9223372036854775808) = true) (i : Int) : lane_State_Apply (some (lnS 0 1 [] [])) i (cmdD S q 8 1 0) = some (zero_api_Effect, some (lnS 0 1 [] [])) := by
  show (joinO (bif decide (S ≥ 9223372036854775808) then inrO (some (zero_api_Effect, some (lnS 0 1 [] []))) else some (Sum.inl ())) (lane_State_decide_j5 (lnS 0 1 [] []) (cmdD S q 8 1 0) i)).bind _ = _
  rw [h]; rfl
theorem ln_find0 (s : lane_State) (hs : s.open_ = []) (i : api_ID) : lane_State_find (some s) i = some (0, false) := by
  have h : loopO (lane_State_find_l1 s i) (((s.open_).length : Int), (0:Int)) = some 0 := by
    rw [loopO_eq, hs]; rfl
  unfold lane_State_find
  dsimp only
  rw [h, Option.bind_some]
  simp only [lane_State_find_j0, hs]
  rfl
theorem in_c {S q : Int} (hq : 0 < q) (i : Int) : ∃ t d r, lane_State_Apply (some (lnS 0 1 [] [])) i (cmdD S q 0 1 1) = some ({ Kind := 4, ID := { Session := S, Seq := q }, R := { E := 0, Epoch := 1, Index := i, Gots := [], Scans := [] } }, some (lnS 0 1 t [d])) ∧ t = putL [] (rw_ S q r) := by
  have hp := put_eq (l := []) rise_nil (by simp) S q { E := 0, Epoch := 1, Index := i, Gots := [], Scans := [] } (by omega)
  rw [if_neg (show ¬ q = 0 by omega), if_neg (show ¬ seqOf S [] ≥ q from by show ¬ (0:Int) ≥ q; omega)] at hp
  refine ⟨_, { ID := { Session := S, Seq := q }, E := 0, Epoch := 1, Index := i, Shards := 1, Parts := [] }, { E := 0, Epoch := 1, Index := i, Gots := [], Scans := [] }, ?_, rfl⟩
  have hc : slices_Clone_api_Part_api_Part [] = some [] := gd_true (room_le (by simp))
  have hj : lane_State_decide_j3 (lnS 0 1 [] []) (cmdD S q 0 1 1) i () = some (({ Kind := 4, ID := { Session := S, Seq := q }, R := { E := 0, Epoch := 1, Index := i, Gots := [], Scans := [] } } : api_Effect), some (lnS 0 1 (putL [] (rw_ S q { E := 0, Epoch := 1, Index := i, Gots := [], Scans := [] })) [{ ID := { Session := S, Seq := q }, E := 0, Epoch := 1, Index := i, Shards := 1, Parts := [] }])) := by
    unfold lane_State_decide_j3
    simp only [lnS, cmdD]
    rw [hp, Option.bind_some]
    have b0 : ((0:Int) != (0:Int)) = false := rfl
    have b1 : ((1:Int) != (0:Int)) = true := rfl
    simp only [b0, cond_false, b1, cond_true, hc, Option.bind_some]
    rw [ln_find0 _ rfl, Option.bind_some]
    simp only [slices_Insert_api_Decision_api_Decision]
    rw [gd_true (by simp [insOK, room]), Option.bind_some]
    rfl
  show (lane_State_decide_j3 (lnS 0 1 [] []) (cmdD S q 0 1 1) i ()).bind _ = _
  rw [hj]; rfl
theorem laneInner_plain {a0 a1 : Int} (o0 : (Lit.int .u64 a0).wf = true) (o1 : (Lit.int .u8 a1).wf = true) : law16_LaneInner a0 a1 = some true := by
  have h0 := (lit_u64.1 o0).1
  have h1 := lit_u8.1 o1
  have hS : IntKind.u64.wrap ((9223372036854775808:Int) + IntKind.u64.wrap (Int.tmod a1 16)) = 9223372036854775808 + a1 % 16 := by
    rw [wrap_u64_eq, wrap_u64_eq, Int.tmod_eq_emod_of_nonneg h1.1]; omega
  have hj : ∀ q : Int, 0 < q → law16_LaneInner_j0 a1 q = some true := fun q hq => by
    unfold law16_LaneInner_j0
    rw [hS]
    generalize hSS : 9223372036854775808 + a1 % 16 = S
    have hge : decide (S ≥ 9223372036854775808) = true := by simp; omega
    obtain ⟨t, d, r, hc, ht⟩ := in_c (S := S) (q := q) hq 3
    have hN : lane_New 0 = some (lnS 0 1 [] []) := rfl
    have ha := in_a (q := q) hge 1
    have hb := in_b (q := q) hge 2
    unfold cmdD at ha hb hc
    rw [hN, Option.bind_some]
    have hz : zero_api_Reply = { E := 0, Epoch := 0, Index := 0, Gots := [], Scans := [] } := rfl
    rw [hz, ha, Option.bind_some]
    dsimp only
    rw [hb, Option.bind_some]
    dsimp only
    rw [hc, Option.bind_some]
    dsimp only
    have hl : lane_State_Last (some (lnS 0 1 t [d])) S = some q := by
      simp only [lane_State_Last, lnS]
      rw [last_eq (by rw [ht]; exact putL_rise rise_nil _) (by rw [ht]; have := putL_len rise_nil (rw_ S q r); simp at this ⊢; omega), Option.bind_some]
      have := look_put rise_nil (rw_ S q r) S
      rw [if_pos (show S = (rw_ S q r).session from rfl)] at this
      simp only [seqOf, ht, this]
      rfl
    have ho : lane_State_Open (some (lnS 0 1 t [d])) = some [d] := by
      simp only [lane_State_Open, lnS, slices_Clone_api_Decision_api_Decision]
      rw [gd_true (room_le (by simp))]; rfl
    rw [ln_awake, Option.bind_some]
    simp only [cond_true, hl, ho, Option.bind_some]
    have hq' : (q == q) = true := by simp
    rw [hq']
    rfl
  unfold law16_LaneInner
  by_cases hz : a0 = 0
  · subst hz
    exact hj 1 (by omega)
  · have : (a0 == (0:Int)) = false := by simpa using hz
    rw [this, cond_false, Option.bind_some]
    exact hj a0 (by omega)
end Go.Proofs.YtgnkkopjkgdieaaGreat
