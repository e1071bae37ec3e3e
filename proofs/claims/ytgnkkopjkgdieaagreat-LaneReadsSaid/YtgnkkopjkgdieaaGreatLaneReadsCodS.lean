/- Are two holds, answers, commands one? They are, if they come back as one. -/
import Derived.Test.YtgnkkopjkgdieaaGreatLaneReadsCodD
import Derived.Test.YtgnkkopjkgdieaaGreatLaneReadsFltS
import Derived.Test.YtgnkkopjkgdieaaGreatLaneReadsGv
set_option linter.unusedVariables false
set_option linter.unusedSimpArgs false
set_option maxRecDepth 100000
namespace Go.Proofs.YtgnkkopjkgdieaaGreat
open Go Go.V
noncomputable def tr (p : Prop) : Bool := @decide p (Classical.propDecidable p)
theorem tr_iff {p : Prop} : tr p = true ↔ p := by unfold tr; exact @decide_eq_true_iff p (Classical.propDecidable p)
theorem tr_t {p : Prop} (h : p) : tr p = true := tr_iff.2 h
theorem tr_f {p : Prop} (h : ¬ p) : tr p = false := by cases e : tr p with | false => rfl | true => exact absurd (tr_iff.1 e) h
theorem tr_eq {p : Prop} {b : Bool} (h : b = true ↔ p) : b = tr p := by
  by_cases hp : p
  · rw [tr_t hp, h.2 hp]
  · rw [tr_f hp]; cases b with | false => rfl | true => exact absurd (h.1 rfl) hp
theorem tr_congr {p q : Prop} (h : p ↔ q) : tr p = tr q := tr_eq (tr_iff.trans h)
/-- One part differs, or all else decides. -/
theorem and_step {p q : Prop} {b : Bool} {X : Option Bool} (hb : b = !(tr p)) (h : p → X = some (tr q)) : (bif b then some false else X) = some (tr (p ∧ q)) := by
  subst hb
  by_cases hp : p
  · rw [tr_t hp, Bool.not_true, cond_false, h hp, tr_congr (q := p ∧ q) ⟨fun hq => ⟨hp, hq⟩, fun hq => hq.2⟩]
  · rw [tr_f hp, Bool.not_false, cond_true, tr_f fun h => hp h.1]
theorem ne_tr (a b : Int) : (a != b) = !(tr (a = b)) := by rw [← tr_eq (b := a == b) (by simp)]; rfl
theorem eqi_tr (a b : Int) : (a == b) = tr (a = b) := tr_eq (by simp)
theorem txt_tr {a b : List Int} (ha : U8s a) (hb : U8s b) : sEq (toStr a) (toStr b) = tr (a = b) := by rw [sEq_toStr ha hb]; exact tr_eq (by simp)
theorem len_tr {α β : Type} (a : List α) (b : List β) : (((a.length : Nat) : Int) != ((b.length : Nat) : Int)) = !(tr (a.length = b.length)) := by rw [ne_tr]; exact congrArg _ (tr_congr (by omega))
theorem same_cf {a b : Nat} (ha : isF a) (hb : isF b) : ref01_Same a b = some (tr (cf a = cf b)) := by
  rw [same_eq ha hb, tr_congr (cf_eq ha hb)]
  exact congrArg _ (tr_eq (by simp))
theorem stp {γ : Type} {p q : Prop} {X N Y : γ} (h : X = bif tr q then Y else N) : (bif !(tr p) then N else X) = bif tr (p ∧ q) then Y else N := by
  by_cases hp : p
  · rw [tr_t hp, Bool.not_true, cond_false, h, tr_congr (q := p ∧ q) ⟨fun hq => ⟨hp, hq⟩, fun hq => hq.2⟩]
  · rw [tr_f hp, Bool.not_false, cond_true, tr_f fun h => hp h.1, cond_false]
theorem stp1 {γ : Type} {p : Prop} {N Y : γ} : (bif !(tr p) then N else Y) = bif tr p then Y else N := by cases tr p <;> rfl
theorem cond_congr {γ : Type} {p q : Prop} {N Y : γ} (h : p ↔ q) : (bif tr p then Y else N) = bif tr q then Y else N := by rw [tr_congr h]
/-- A loop that compares two lists. -/
theorem cmp_loop {α β R : Type} {body : Int → Option (Int ⊕ R)} (yes no : R) (c : α → β) (a b : List α) (hl : a.length = b.length) (hn : a.length ≤ 1000000)
    (hstep : ∀ i (h : i < a.length), body (i : Int) = bif tr (c a[i] = c (b[i]'(hl ▸ h))) then some (Sum.inl (IntKind.i64.wrap ((i : Int) + (1:Int)))) else some (Sum.inr no))
    (hend : body (a.length : Int) = some (Sum.inr yes)) : loopO body (0:Int) = some (bif tr (a.map c = b.map c) then yes else no) := by
  have key : ∀ k, k ≤ a.length → loopO body ((a.length - k : Nat) : Int) = some (bif tr ((a.drop (a.length - k)).map c = (b.drop (a.length - k)).map c) then yes else no) := by
    intro k
    induction k with
    | zero =>
      intro _
      have hb : b.drop (a.length - 0) = [] := List.drop_eq_nil_of_le (by omega)
      have ha : a.drop (a.length - 0) = [] := List.drop_eq_nil_of_le (by omega)
      rw [loopO_eq, Nat.sub_zero, hend]
      simp only [Nat.sub_zero] at ha hb
      rw [ha, hb, tr_t rfl]; rfl
    | succ k ih =>
      intro hk
      have hi : a.length - (k + 1) < a.length := by omega
      have e : IntKind.i64.wrap (((a.length - (k + 1) : Nat) : Int) + (1:Int)) = ((a.length - k : Nat) : Int) := by rw [wrap_i64] <;> omega
      have e2 : a.length - (k + 1) + 1 = a.length - k := by omega
      have ha : a.drop (a.length - (k + 1)) = a[a.length - (k + 1)] :: a.drop (a.length - k) := by rw [List.drop_eq_getElem_cons hi, e2]
      have hb : b.drop (a.length - (k + 1)) = b[a.length - (k + 1)]'(hl ▸ hi) :: b.drop (a.length - k) := by rw [List.drop_eq_getElem_cons (hl ▸ hi), e2]
      rw [loopO_eq, hstep _ hi, e]
      by_cases hc : c a[a.length - (k + 1)] = c (b[a.length - (k + 1)]'(hl ▸ hi))
      · rw [tr_t hc, cond_true]
        have h := ih (by omega)
        rw [ha, hb, List.map_cons, List.map_cons]
        rw [tr_congr (q := (a.drop (a.length - k)).map c = (b.drop (a.length - k)).map c) (by simp [hc])]
        exact h
      · rw [tr_f hc, cond_false, ha, hb, List.map_cons, List.map_cons, tr_f (by simp [hc])]
        rfl
  have h := key a.length (Nat.le_refl _)
  simpa using h
theorem cmp_len {α β : Type} {c : α → β} {a b : List α} {X : Option Bool} (h : a.length = b.length → X = some (tr (a.map c = b.map c))) : (bif ((a.length : Nat) : Int) != ((b.length : Nat) : Int) then some false else X) = some (tr (a.map c = b.map c)) := by
  rw [and_step (len_tr a b) h]
  exact congrArg _ (tr_congr ⟨fun h => h.2, fun h => ⟨by simpa using congrArg List.length h, h⟩⟩)
theorem bif_tf {p : Prop} : (bif tr p then true else false) = tr p := by cases tr p <;> rfl
/-! ### Answers -/
theorem id_eq (x y : api_ID) : (x.Session = y.Session ∧ x.Seq = y.Seq) ↔ x = y := by cases x; cases y; simp
/-! ### Holds -/
theorem join_u {R : Type} {p q : Prop} {f : Unit → Option Bool} (h : p → f () = some (tr q)) : joinO (some (bif tr p then (Sum.inl () : Unit ⊕ Bool) else Sum.inr false)) f = some (tr (p ∧ q)) := by
  by_cases hp : p
  · rw [tr_t hp, cond_true]
    show f () = _
    rw [h hp, tr_congr (q := p ∧ q) ⟨fun hq => ⟨hp, hq⟩, fun hq => hq.2⟩]
  · rw [tr_f hp, cond_false, tr_f fun h => hp h.1]; rfl
theorem same_hold {a b : api_Hold} (ha : holdG a) (hb : holdG b) : ref11_SameHold a b = some (tr (cHold a = cHold b)) := by
  obtain ⟨_, _, _, a4, a5, a6, a7, a8, a9, _, a10⟩ := ha
  obtain ⟨_, _, _, b4, b5, b6, b7, b8, b9, _, b10⟩ := hb
  unfold ref11_SameHold
  refine (and_step (p := a.ID.Session = b.ID.Session ∧ a.ID.Seq = b.ID.Seq) (q := a.Epoch = b.Epoch ∧ a.Gets.length = b.Gets.length ∧ a.Scans.length = b.Scans.length ∧ a.Puts.length = b.Puts.length ∧ a.Data = b.Data ∧ a.Gets.map cf = b.Gets.map cf ∧ a.Scans.map cSpan = b.Scans.map cSpan ∧ a.Puts.map cf = b.Puts.map cf) ?_ fun _ => and_step (ne_tr _ _) fun _ => and_step (len_tr _ _) fun hg => and_step (len_tr _ _) fun hs => and_step (len_tr _ _) fun hp => and_step (by rw [txt_tr a10 b10]) fun _ => ?_).trans ?_
  · exact congrArg _ (tr_eq (by simp))
  · have e1 : loopO (ref11_SameHold_l1 a b) (0:Int) = some (bif tr (a.Gets.map cf = b.Gets.map cf) then Sum.inl () else Sum.inr false) := by
      refine cmp_loop (body := ref11_SameHold_l1 a b) _ _ cf a.Gets b.Gets hg (by omega) (fun i hi => ?_) ?_
      · have hi' : i < b.Gets.length := hg ▸ hi
        have e1 : decide ((i : Int) < (a.Gets.length : Int)) = true := by simpa using hi
        simp only [ref11_SameHold_l1, e1, cond_true, geto_lt hi, geto_lt hi', Option.bind_some, same_cf (a4 _ (List.getElem_mem hi)) (b4 _ (List.getElem_mem hi')), inrO, Option.map_some]
        exact stp1
      · simp [ref11_SameHold_l1, inrO]
    have e2 : loopO (ref11_SameHold_l3 a b) (0:Int) = some (bif tr (a.Scans.map cSpan = b.Scans.map cSpan) then Sum.inl () else Sum.inr false) := by
      refine cmp_loop (body := ref11_SameHold_l3 a b) _ _ cSpan a.Scans b.Scans hs (by omega) (fun i hi => ?_) ?_
      · have hi' : i < b.Scans.length := hs ▸ hi
        have e1 : decide ((i : Int) < (a.Scans.length : Int)) = true := by simpa using hi
        simp only [ref11_SameHold_l3, e1, cond_true, geto_lt hi, geto_lt hi', Option.bind_some, same_cf (a5 _ (List.getElem_mem hi)).1 (b5 _ (List.getElem_mem hi')).1, same_cf (a5 _ (List.getElem_mem hi)).2 (b5 _ (List.getElem_mem hi')).2, inrO, Option.map_some]
        rw [stp stp1]
        exact cond_congr (by simp [cSpan])
      · simp [ref11_SameHold_l3, inrO]
    have e3 : loopO (ref11_SameHold_l4 a b) (0:Int) = some (tr (a.Puts.map cf = b.Puts.map cf)) := by
      refine (cmp_loop (body := ref11_SameHold_l4 a b) true false cf a.Puts b.Puts hp (by omega) (fun i hi => ?_) ?_).trans (congrArg some bif_tf)
      · have hi' : i < b.Puts.length := hp ▸ hi
        have e1 : decide ((i : Int) < (a.Puts.length : Int)) = true := by simpa using hi
        simp only [ref11_SameHold_l4, e1, cond_true, geto_lt hi, geto_lt hi', Option.bind_some, same_cf (a6 _ (List.getElem_mem hi)) (b6 _ (List.getElem_mem hi')), inrO, Option.map_some]
        exact stp1
      · simp [ref11_SameHold_l4, inrO]
    rw [e1]
    refine join_u (R := Unit) fun _ => ?_
    unfold ref11_SameHold_j0
    rw [e2]
    exact join_u (R := Unit) fun _ => e3
  · refine congrArg _ (tr_congr ?_)
    simp only [cHold, api_Hold.mk.injEq, api_ID.mk.injEq]
    constructor
    · rintro ⟨h1, h2, _, _, _, h3, h4, h5, h6⟩
      exact ⟨(id_eq _ _).1 h1, h2, h4, h5, h6, h3⟩
    · rintro ⟨h1, h2, h4, h5, h6, h3⟩
      exact ⟨(id_eq _ _).2 h1, h2, by simpa using congrArg List.length h4, by simpa using congrArg List.length h5, by simpa using congrArg List.length h6, h3, h4, h5, h6⟩
end Go.Proofs.YtgnkkopjkgdieaaGreat
