/- Any two answers, to any numbers: the plain law. -/
import Derived.Test.YtkfifhkjdibadaaSessionRawSesR
import Derived.Test.YtkfifhkjdibadaaSessionRawA
set_option linter.unusedVariables false
set_option linter.unusedSimpArgs false
set_option maxRecDepth 100000
namespace Go.Proofs.Ytkfifhkjdibadaa
open Go Go.V
theorem lit_f64 {n : Nat} (h : (Lit.float .f64 n).wf = true) : n < 18446744073709551616 := by
  simpa [Lit.wf] using h
theorem okR_arg {x : api_Reply} (o : ok_api_Reply x) : okR x := by
  obtain ⟨_, _, _, h4, h5⟩ := o
  have hm : maxLen ≤ 9223372036854775807 := by decide
  exact ⟨Nat.le_trans h4.1 hm, Nat.le_trans h5.1 hm, fun l hl => ⟨Nat.le_trans (h5.2 l hl).1 hm, fun p hp => lit_f64 ((h5.2 l hl).2 p hp).1⟩⟩
theorem raw_tail {l : List session_row} (hr : Rise l) (hl : l.length ≤ 1000) (s last want : Int) {v x y : api_Reply} (t : Option session_Table) (hv : okR v) (hk : look s l = some (rw_ s last v)) (h0 : 0 < last) (h1 : want ≠ 0 → v = x) (h2 : want = 0 → v = y) :
    law14_SessionRaw_j3 { l := l } s (want, t) want x y last = some true := by
  have e0 : (last == (0:Int)) = false := by simp; omega
  have e1 : seqOf s l = last := by unfold seqOf; rw [hk]; rfl
  have hself := self_reply hv
  simp only [law14_SessionRaw_j3, get_eq hr (show l.length ≤ 1000000 by omega), hk, rw_, Int.lt_irrefl, gt_iff_lt, if_false, Option.bind_some, e0, cond_false]
  by_cases hw : want = 0
  · have e2 : (want != (0:Int)) = false := by simp [hw]
    have := h2 hw
    subst this
    simp only [e2, cond_false, Option.bind_some, law14_SessionRaw_j4, last_eq hr (show l.length ≤ 1000000 by omega), e1]
    have e3 : (want == want) = true := by simp
    have e4 : (last == last) = true := by simp
    simp only [e3, e4, cond_true]
    show (ref11_SameReply v v).bind _ = _
    rw [hself]; rfl
  · have e2 : (want != (0:Int)) = true := by simp [hw]
    have := h1 hw
    subst this
    simp only [e2, cond_true, Option.bind_some, law14_SessionRaw_j4, last_eq hr (show l.length ≤ 1000000 by omega), e1]
    have e3 : (want == want) = true := by simp
    have e4 : (last == last) = true := by simp
    simp only [e3, e4, cond_true]
    show (ref11_SameReply v v).bind _ = _
    rw [hself]; rfl
theorem raw_j0 (s : Int) {x y : api_Reply} (hx : okR x) (hy : okR y) {a b : Int} (ha : 0 ≤ a) (hb : 0 ≤ b) : law14_SessionRaw_j0 s x y (a, b) = some true := by
  have h0 := rise_nil
  have es : ∀ t : Int, seqOf t [] = 0 := fun t => rfl
  simp only [law14_SessionRaw_j0, session_New, Option.bind_some]
  rw [put_eq h0 (by decide) s a x ha, Option.bind_some, es]
  by_cases ha0 : a = 0
  · subst ha0
    simp only [if_true]
    rw [put_eq h0 (by decide) s b y hb, Option.bind_some, es]
    have g1 : (bif !((1:Int) == (0:Int)) == ((0:Int) != (0:Int)) then (inrO (some false) : Option (Unit ⊕ Bool)) else bif (0:Int) == (0:Int) then bif (1:Int) != (1:Int) then inrO (some false) else some (Sum.inl ()) else some (Sum.inl ())) = some (Sum.inl ()) := rfl
    by_cases hb0 : b = 0
    · subst hb0
      simp only [if_true]
      rw [g1, join_inl]
      unfold law14_SessionRaw_j1
      show law14_SessionRaw_j2 0 0 _ s _ x y 1 = _
      unfold law14_SessionRaw_j2
      show law14_SessionRaw_j3 _ s _ 1 x y 0 = _
      simp only [law14_SessionRaw_j3, get_eq h0 (show ([] : List session_row).length ≤ 1000000 by decide), Option.bind_some, session_Table_Len]
      rfl
    · have hb1 : ¬ (0:Int) ≥ b := by omega
      simp only [if_neg hb0, if_neg hb1]
      rw [g1, join_inl]
      have d1 : (b == (0:Int)) = false := by simp [hb0]
      have d2 : decide (b ≤ (0:Int)) = false := decide_eq_false (by omega)
      have d3 : ((0:Int) == (0:Int)) = true := rfl
      simp only [law14_SessionRaw_j1, law14_SessionRaw_j2, d1, d2, d3, cond_false, cond_true, Option.bind_some]
      have hl := putL_len h0 (rw_ s b y)
      rw [List.length_nil] at hl
      refine raw_tail (putL_rise h0 _) (by omega) s b 0 _ hy ?_ (by omega) (fun h => absurd rfl h) (fun _ => rfl)
      rw [look_put h0]; exact if_pos rfl
  · have ha1 : ¬ (0:Int) ≥ a := by omega
    simp only [if_neg ha0, if_neg ha1]
    have hr := putL_rise h0 (rw_ s a x)
    have hl := putL_len h0 (rw_ s a x)
    rw [List.length_nil] at hl
    have hk : look s (putL [] (rw_ s a x)) = some (rw_ s a x) := by rw [look_put h0]; exact if_pos rfl
    have hs : seqOf s (putL [] (rw_ s a x)) = a := by unfold seqOf; rw [hk]; rfl
    rw [put_eq hr (by omega) s b y hb, Option.bind_some, hs]
    have d0 : (a == (0:Int)) = false := by simp [ha0]
    have d9 : (a != (0:Int)) = true := by simp [ha0]
    have g1 : (bif !((0:Int) == (0:Int)) == (a != (0:Int)) then (inrO (some false) : Option (Unit ⊕ Bool)) else bif a == (0:Int) then bif (0:Int) != (1:Int) then inrO (some false) else some (Sum.inl ()) else some (Sum.inl ())) = some (Sum.inl ()) := by rw [d0, d9]; rfl
    have d3 : ((0:Int) == (0:Int)) = true := rfl
    by_cases hb0 : b = 0
    · subst hb0
      simp only [if_true]
      rw [g1, join_inl]
      have d4 : ((1:Int) == (0:Int)) = false := rfl
      simp only [law14_SessionRaw_j1, law14_SessionRaw_j2, d3, d4, cond_false, cond_true, Option.bind_some]
      exact raw_tail hr (by omega) s a 1 _ hx hk (by omega) (fun _ => rfl) (fun h => by cases h)
    · have d1 : (b == (0:Int)) = false := by simp [hb0]
      by_cases hab : a ≥ b
      · simp only [if_neg hb0, if_pos hab]
        rw [g1, join_inl]
        have d2 : decide (b ≤ a) = true := decide_eq_true hab
        have d4 : ((10:Int) == (0:Int)) = false := rfl
        simp only [law14_SessionRaw_j1, law14_SessionRaw_j2, d1, d2, d4, cond_false, cond_true, Option.bind_some]
        exact raw_tail hr (by omega) s a 10 _ hx hk (by omega) (fun _ => rfl) (fun h => by cases h)
      · simp only [if_neg hb0, if_neg hab]
        rw [g1, join_inl]
        have d2 : decide (b ≤ a) = false := decide_eq_false (by omega)
        simp only [law14_SessionRaw_j1, law14_SessionRaw_j2, d1, d2, d3, cond_false, cond_true, Option.bind_some]
        have hl2 := putL_len hr (rw_ s b y)
        refine raw_tail (putL_rise hr _) (by omega) s b 0 _ hy ?_ (by omega) (fun h => absurd rfl h) (fun _ => rfl)
        rw [look_put hr]; exact if_pos rfl
theorem sessionRaw_plain {a0 a1 a2 : Int} {a3 a4 : api_Reply} {a5 : Bool} (o0 : (Lit.int .u64 a0).wf = true) (o1 : (Lit.int .u64 a1).wf = true) (o2 : (Lit.int .u64 a2).wf = true) (o3 : ok_api_Reply a3) (o4 : ok_api_Reply a4) (o5 : True) : law14_SessionRaw a0 a1 a2 a3 a4 a5 = some true := by
  have h1 := lit_u64.1 o1
  have h2 := lit_u64.1 o2
  unfold law14_SessionRaw
  simp only [ses_awake, Option.bind_some, Bool.not_true, cond_false]
  cases h0 : decide ((IntKind.i64.wrap ((IntKind.i64.wrap ((IntKind.i64.wrap (((a3.Gots).length : Int) + ((a3.Scans).length : Int))) + ((a4.Gots).length : Int))) + ((a4.Scans).length : Int))) > (100:Int)) with
  | true => rfl
  | false =>
  simp only [cond_false]
  cases a5 with
  | true =>
    simp only [cond_true, Option.bind_some]
    exact raw_j0 a0 (okR_arg o3) (okR_arg o4) (Int.tmod_nonneg _ h1.1) (Int.tmod_nonneg _ h2.1)
  | false => exact raw_j0 a0 (okR_arg o3) (okR_arg o4) h1.1 h2.1
end Go.Proofs.Ytkfifhkjdibadaa
