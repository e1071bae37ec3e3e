/- A lattice is made: what is below, and the tables; plainly. -/
import Derived.Test.YtbdbeenkamcglaaNetMostLbO
set_option linter.unusedVariables false
set_option linter.unusedSimpArgs false
set_option maxRecDepth 100000
namespace Go.Proofs.Ytbdbeenkamcglaa
open Go Go.V
def dn (us : List Nat) : Nat → Nat → Nat
  | 0, _ => 0
  | a + 1, j => if le us a j then dn us a j ||| 2 ^ a else dn us a j
theorem dn_bit (us : List Nat) (a j i : Nat) : (dn us a j).testBit i = (decide (i < a) && le us i j) := by
  induction a with
  | zero => simp [dn]
  | succ a ih =>
    have e : (if le us a j then dn us a j ||| 2 ^ a else dn us a j).testBit i = ((dn us a j).testBit i || (le us a j && decide (a = i))) := by
      cases h : le us a j with
      | true => simp [Nat.testBit_or, Nat.testBit_two_pow]
      | false => simp
    rw [dn, e, ih]
    by_cases h : a = i
    · subst h
      have : ¬ a < a := by omega
      simp
    · by_cases h2 : i < a
      · have h3 : i < a + 1 := by omega
        simp [h, h2, h3]
      · have h3 : ¬ i < a + 1 := by omega
        simp [h, h2, h3]
theorem dn_lt (us : List Nat) (a j : Nat) : dn us a j < 2 ^ a := Nat.lt_pow_two_of_testBit _ fun i hi => by
  have : ¬ i < a := by omega
  rw [dn_bit]; simp [this]
theorem dn_64 (us : List Nat) {a : Nat} (ha : a ≤ 20) (j : Nat) : dn us a j < 2 ^ 64 := Nat.lt_of_lt_of_le (dn_lt us a j) (Nat.pow_le_pow_right (by decide) (by omega))
/-! ### Lists by their places -/
section
variable {α : Type}
def tab (n : Nat) (f : Nat → α) : List α := (List.range n).map f
theorem tab_len (n : Nat) (f : Nat → α) : (tab n f).length = n := by simp [tab]
theorem tab_get {n i : Nat} (f : Nat → α) (h : i < (tab n f).length) : (tab n f)[i] = f i := by simp [tab]
theorem get_tab {n i : Nat} (f : Nat → α) (h : i < n) : geto (tab n f) (i : Int) = some (f i) := by
  rw [geto_lt (by rw [tab_len]; exact h), tab_get]
theorem tab_succ (n : Nat) (f : Nat → α) : tab (n + 1) f = tab n f ++ [f n] := by simp [tab, List.range_succ]
theorem tab_ext {n : Nat} {f g : Nat → α} (h : ∀ i, i < n → f i = g i) : tab n f = tab n g := List.map_congr_left fun i hi => h i (List.mem_range.1 hi)
theorem tab_set (n b : Nat) (f : Nat → α) (x : α) : (tab n f).set b x = tab n (fun j => if j = b then x else f j) := by
  apply List.ext_getElem
  · rw [List.length_set, tab_len, tab_len]
  · intro i h1 h2
    rw [List.getElem_set, tab_get, tab_get]
    by_cases h : b = i
    · subst h; simp
    · have : ¬ i = b := fun e => h e.symm
      simp [h, this]
theorem tab_const (n : Nat) (x : α) : tab n (fun _ => x) = List.replicate n x := by
  apply List.ext_getElem
  · rw [tab_len, List.length_replicate]
  · intro i h1 h2; rw [tab_get, List.getElem_replicate]
end
variable {us : List Nat}
/-- What stands in a lattice while what is below is set. -/
def latD (us : List Nat) (D : List Int) : label_Lattice := { up := up us, down := D, join := [], meet := [], rank := List.replicate us.length (0:Int), all := [] }
def dnI (us : List Nat) (a : Nat) (j : Nat) : Int := (dn us a j : Int)
theorem down_in (hw : w64 us) (hn : us.length ≤ 16) {a : Nat} (ha : a < us.length) :
    loopO (label_New_l3 (up us) (ub us a : Int) (a : Int)) (latD us (tab us.length (dnI us a)), (0:Int)) = some (Sum.inl (latD us (tab us.length (dnI us (a + 1))), ((a + 1 : Nat) : Int))) := by
  have hwa := hw _ (ub_mem ha)
  have h := loop_range (body := label_New_l3 (up us) (ub us a : Int) (a : Int)) (fun b => (latD us (tab us.length fun j => if j < b then dnI us (a + 1) j else dnI us a j), (b : Int))) us.length (Sum.inl (latD us (tab us.length (dnI us (a + 1))), ((a + 1 : Nat) : Int))) (fun b hb => by
    have e1 : ∀ x : Int, x = dnI us (a + 1) b → (tab us.length fun j => if j < b then dnI us (a + 1) j else dnI us a j).set b x = tab us.length fun j => if j < b + 1 then dnI us (a + 1) j else dnI us a j := fun x hx => by
      rw [tab_set]
      refine tab_ext fun i hi => ?_
      by_cases h1 : i = b
      · subst h1; rw [if_pos rfl, if_pos (by omega), hx]
      · rw [if_neg h1]
        by_cases h2 : i < b
        · rw [if_pos h2, if_pos (by omega)]
        · rw [if_neg h2, if_neg (by omega)]
    have e2 : (if b < b then dnI us (a + 1) b else dnI us a b) = ((dn us a b : Nat) : Int) := by rw [if_neg (by omega)]; rfl
    simp only [label_New_l3, up_len, lt_t hb, cond_true, gd_true (gdn b), bit_eq hwa, latD, get_tab _ hb, Option.bind_some, gd_true (gdn a), gd_t, e2, Int.toNat_natCast, wrap_succ (show b ≤ 4294967295 by omega)]
    rw [show (ub us a).testBit b = le us a b from rfl]
    have h2 : (2:Nat) ^ a < 2 ^ 64 := Nat.pow_lt_pow_right (by decide) (by omega)
    cases hl : le us a b with
    | true =>
      rw [cond_true, iShl_one (by omega), bOr_nat (dn_64 us (by omega) b) h2, e1 _ (by simp [dnI, dn, hl])]
    | false =>
      have hls : (tab us.length fun j => if j < b then dnI us (a + 1) j else dnI us a j) = tab us.length fun j => if j < b + 1 then dnI us (a + 1) j else dnI us a j := tab_ext fun i hi => by
        by_cases h1 : i = b
        · subst h1; rw [if_neg (by omega), if_pos (by omega)]; simp [dnI, dn, hl]
        · by_cases h2 : i < b
          · rw [if_pos h2, if_pos (by omega)]
          · rw [if_neg h2, if_neg (by omega)]
      rw [cond_false, hls]) (by
    simp only [label_New_l3, up_len, lt_f, cond_false, wrap_succ (show a ≤ 4294967295 by omega)]
    show some (Sum.inr (Sum.inl _)) = _
    congr 5
    exact tab_ext fun i hi => by rw [if_pos hi])
  have e0 : (tab us.length fun j => if j < 0 then dnI us (a + 1) j else dnI us a j) = tab us.length (dnI us a) := tab_ext fun i _ => by rw [if_neg (by omega)]
  simp only [e0] at h
  exact h
theorem down_eq (hw : w64 us) (hn : us.length ≤ 16) : loopO (label_New_l2 (up us)) (latD us (List.replicate us.length (0:Int)), (0:Int)) = some (latD us (tab us.length (dnI us us.length))) := by
  have h := loop_range (body := label_New_l2 (up us)) (fun a => (latD us (tab us.length (dnI us a)), (a : Int))) us.length (latD us (tab us.length (dnI us us.length))) (fun a ha => by
    simp only [label_New_l2, up_len, lt_t ha, cond_true, get_up ha, Option.bind_some, down_in hw hn ha]) (by
    simp only [label_New_l2, up_len, lt_f, cond_false]; rfl)
  rw [show List.replicate us.length (0:Int) = tab us.length (dnI us 0) from (tab_const _ _).symm]
  exact h
/-! ### The tables -/
def jI (us : List Nat) (a b : Nat) : Int := idx (fstN us.length (jB us a b))
def mI (us : List Nat) (a b : Nat) : Int := idx (fstN us.length (mB us a b))
def hasB (us : List Nat) (a b : Nat) : Bool := (fstN us.length (jB us a b)).isSome && (fstN us.length (mB us a b)).isSome
def ds (us : List Nat) : List Nat := tab us.length (dn us us.length)
theorem up_ds (us : List Nat) : up (ds us) = tab us.length (dnI us us.length) := by simp [up, ds, tab, dnI, Function.comp_def]
theorem ub_ds {a : Nat} (ha : a < us.length) : ub (ds us) a = dn us us.length a := by
  unfold ub ds
  rw [List.getElem?_eq_getElem (by rw [tab_len]; exact ha), tab_get]; rfl
def lsR (o : Option Nat) : Int × Bool := o.elim ((0:Int), false) fun i => ((i : Int), true)
theorem lsR_1 {o : Option Nat} (h : o.isSome = true) : (lsR o).1 = idx o := by cases o with | none => cases h | some i => rfl
theorem lsR_2 (o : Option Nat) : (lsR o).2 = o.isSome := by cases o <;> rfl
theorem least_up (hw : w64 us) (hn : us.length ≤ 16) (hP : ordP us) {a b : Nat} (ha : a < us.length) (hb : b < us.length) : label_least (bAnd .u64 (ub us a : Int) (ub us b : Int)) (up us) = some (lsR (fstN us.length (jB us a b))) := by
  have h1 := hw _ (ub_mem ha)
  have h2 := hw _ (ub_mem hb)
  have hs : ub us a &&& ub us b < 2 ^ 64 := Nat.lt_of_le_of_lt Nat.and_le_left h1
  rw [bAnd_nat h1 h2, least_eq (by omega) hs]
  rw [fstN_congr (q := jB us a b) fun c hc => ?_]; rfl
  have hz := andNot_z hs (hw _ (ub_mem hc))
  rw [Bool.eq_iff_iff, Bool.and_eq_true, hz]
  unfold jB
  simp only [Nat.testBit_and, Bool.and_eq_true, List.all_eq_true, List.mem_range, Bool.or_eq_true, Bool.not_eq_true', Bool.and_eq_false_iff]
  constructor
  · rintro ⟨⟨g1, g2⟩, g3⟩
    refine ⟨⟨g1, g2⟩, fun d hd => ?_⟩
    cases e1 : le us a d with
    | false => exact .inl (.inl rfl)
    | true =>
      cases e2 : le us b d with
      | false => exact .inl (.inr rfl)
      | true => exact .inr (g3 d ⟨e1, e2⟩)
  · rintro ⟨⟨g1, g2⟩, g3⟩
    refine ⟨⟨g1, g2⟩, fun d hd => ?_⟩
    have hdn : d < us.length := by
      rcases Nat.lt_or_ge d us.length with e | e
      · exact e
      · have := hd.1
        rw [Nat.testBit_lt_two_pow (Nat.lt_of_lt_of_le (hP a ha).1 (Nat.pow_le_pow_right (by decide) e))] at this; cases this
    rcases g3 d hdn with (h | h) | h
    · rw [show le us a d = true from hd.1] at h; cases h
    · rw [show le us b d = true from hd.2] at h; cases h
    · exact h
theorem least_dn (hn : us.length ≤ 16) {a b : Nat} (ha : a < us.length) (hb : b < us.length) : label_least (bAnd .u64 (dnI us us.length a) (dnI us us.length b)) (tab us.length (dnI us us.length)) = some (lsR (fstN us.length (mB us a b))) := by
  have h1 := dn_64 us (show us.length ≤ 20 by omega) a
  have h2 := dn_64 us (show us.length ≤ 20 by omega) b
  have hs : dn us us.length a &&& dn us us.length b < 2 ^ 64 := Nat.lt_of_le_of_lt Nat.and_le_left h1
  have hl : (ds us).length = us.length := tab_len _ _
  unfold dnI
  rw [bAnd_nat h1 h2]
  have := least_eq (us := ds us) (by omega) hs
  rw [up_ds, hl] at this
  unfold dnI at this
  rw [this, fstN_congr (q := mB us a b) fun c hc => ?_]; rfl
  rw [ub_ds hc]
  have hz := andNot_z hs (dn_64 us (show us.length ≤ 20 by omega) c)
  rw [Bool.eq_iff_iff, Bool.and_eq_true, hz]
  unfold mB
  simp only [Nat.testBit_and, dn_bit, Bool.and_eq_true, List.all_eq_true, List.mem_range, Bool.or_eq_true, Bool.not_eq_true', Bool.and_eq_false_iff, decide_eq_true_eq]
  constructor
  · rintro ⟨⟨⟨_, g1⟩, _, g2⟩, g3⟩
    refine ⟨⟨g1, g2⟩, fun d hd => ?_⟩
    cases e1 : le us d a with
    | false => exact .inl (.inl rfl)
    | true =>
      cases e2 : le us d b with
      | false => exact .inl (.inr rfl)
      | true => exact .inr (g3 d ⟨⟨hd, e1⟩, hd, e2⟩).2
  · rintro ⟨⟨g1, g2⟩, g3⟩
    refine ⟨⟨⟨hc, g1⟩, hc, g2⟩, fun d hd => ⟨hd.1.1, ?_⟩⟩
    rcases g3 d hd.1.1 with (h | h) | h
    · rw [hd.1.2] at h; cases h
    · rw [hd.2.2] at h; cases h
    · exact h
/-- The lattice with so many rows of its tables. -/
def latT (us : List Nat) (a : Nat) : label_Lattice := { up := up us, down := tab us.length (dnI us us.length), join := tab a fun x => tab us.length (jI us x), meet := tab a fun x => tab us.length (mI us x), rank := List.replicate us.length (0:Int), all := tab a fun x => (x : Int) }
theorem row_eq (hw : w64 us) (hn : us.length ≤ 16) (hP : ordP us) {a : Nat} (ha : a < us.length) :
    ∃ r, loopO (label_New_l7 (up us) (latT us a) (a : Int)) ([], [], (0:Int)) = some r ∧ (((∀ b, b < us.length → hasB us a b = true) ∧ r = Sum.inl (tab us.length (jI us a), tab us.length (mI us a))) ∨ ((∃ b, b < us.length ∧ hasB us a b = false) ∧ r = Sum.inr (Sum.inr (Sum.inr (none, (15:Int)))))) := by
  refine loop_inv (body := label_New_l7 (up us) (latT us a) (a : Int)) (fun s => ∃ b : Nat, b ≤ us.length ∧ s = (tab b (jI us a), tab b (mI us a), (b : Int)) ∧ ∀ b', b' < b → hasB us a b' = true) (fun s => ((us.length : Int) - s.2.2).toNat) _ ?_ (s := ([], [], (0:Int))) ⟨0, Nat.zero_le _, rfl, fun b h => by omega⟩
  rintro s ⟨b, hb, rfl, hall⟩
  by_cases hlt : b < us.length
  · have r1 : room (tab b (jI us a)) [(lsR (fstN us.length (jB us a b))).1] = true := room_one (by rw [tab_len]; omega)
    have r2 : room (tab b (mI us a)) [(lsR (fstN us.length (mB us a b))).1] = true := room_one (by rw [tab_len]; omega)
    simp only [label_New_l7, up_len, lt_t hlt, cond_true, latT, get_up ha, get_up hlt, Option.bind_some, least_up hw hn hP ha hlt, get_tab _ ha, get_tab _ hlt, least_dn hn ha hlt, lsR_2, gd_true r1, gd_true r2, wrap_succ (show b ≤ 4294967295 by omega)]
    cases h1 : (fstN us.length (jB us a b)).isSome with
    | false => exact .inr ⟨_, rfl, .inr ⟨⟨b, hlt, by rw [hasB, h1]; rfl⟩, rfl⟩⟩
    | true =>
      cases h2 : (fstN us.length (mB us a b)).isSome with
      | false => exact .inr ⟨_, rfl, .inr ⟨⟨b, hlt, by rw [hasB, h1, h2]; rfl⟩, rfl⟩⟩
      | true =>
        refine .inl ⟨_, rfl, ⟨b + 1, hlt, ?_, fun b' h => ?_⟩, by dsimp only; omega⟩
        · rw [tab_succ, tab_succ, lsR_1 h1, lsR_1 h2]; rfl
        · by_cases e : b' = b
          · subst e; rw [hasB, h1, h2]; rfl
          · exact hall b' (by omega)
  · have e : b = us.length := by omega
    subst e
    exact .inr ⟨_, by simp only [label_New_l7, up_len, lt_f, cond_false]; rfl, .inl ⟨hall, rfl⟩⟩
def okJ (us : List Nat) : Prop := ∀ a, a < us.length → ∀ b, b < us.length → hasB us a b = true
theorem tables_eq (hw : w64 us) (hn : us.length ≤ 16) (hP : ordP us) :
    ∃ r, loopO (label_New_l5 (up us)) (latD us (tab us.length (dnI us us.length)), (0:Int)) = some r ∧ ((okJ us ∧ r = Sum.inl (latT us us.length)) ∨ (¬ okJ us ∧ r = Sum.inr (none, (15:Int)))) := by
  refine loop_inv (body := label_New_l5 (up us)) (fun s => ∃ a : Nat, a ≤ us.length ∧ s = (latT us a, (a : Int)) ∧ ∀ a', a' < a → ∀ b, b < us.length → hasB us a' b = true) (fun s => ((us.length : Int) - s.2).toNat) _ ?_ (s := (latD us (tab us.length (dnI us us.length)), (0:Int))) ⟨0, Nat.zero_le _, rfl, fun a h => by omega⟩
  rintro s ⟨a, ha, rfl, hall⟩
  by_cases hlt : a < us.length
  · obtain ⟨r, h1, h2⟩ := row_eq hw hn hP hlt
    simp only [label_New_l5, up_len, lt_t hlt, cond_true, h1]
    rcases h2 with ⟨g, rfl⟩ | ⟨⟨b, hb, hf⟩, rfl⟩
    · refine .inl ⟨(latT us (a + 1), ((a + 1 : Nat) : Int)), ?_, ⟨a + 1, hlt, rfl, fun a' h => ?_⟩, by dsimp only; omega⟩
      · have r1 : room (latT us a).join [tab us.length (jI us a)] = true := room_one (by simp only [latT, tab_len]; omega)
        have r2 : room (latT us a).meet [tab us.length (mI us a)] = true := room_one (by simp only [latT, tab_len]; omega)
        have r3 : room (latT us a).all [(a : Int)] = true := room_one (by simp only [latT, tab_len]; omega)
        show label_New_j6 (latT us a) (a : Int) (tab us.length (jI us a), tab us.length (mI us a)) = _
        simp only [label_New_j6, gd_true r1, gd_true r2, Option.bind_some, label_New_j8, gd_true r3, wrap_succ (show a ≤ 4294967295 by omega)]
        simp only [latT, tab_succ]
      · by_cases e : a' = a
        · subst e; exact g
        · exact hall a' (by omega)
    · exact .inr ⟨_, rfl, .inr ⟨fun h => (by rw [h a hlt b hb] at hf; cases hf), rfl⟩⟩
  · have e : a = us.length := by omega
    subst e
    exact .inr ⟨_, by simp only [label_New_l5, up_len, lt_f, cond_false]; rfl, .inl ⟨hall, rfl⟩⟩
/-- label.New, but for the order. -/
theorem new_eq (hw : w64 us) (fin : Option label_Lattice × Int) (hfin : us.length ≤ 16 → 1 ≤ us.length → ordP us → okJ us → label_New_j4 (latT us us.length) = some fin) :
    ∃ r, label_New (up us) = some r ∧ ((us.length < 1 ∨ us.length > 16) ∧ r = (none, 1) ∨ (1 ≤ us.length ∧ us.length ≤ 16) ∧ (ordP us ∧ okJ us ∧ r = fin ∨ ¬ (ordP us ∧ okJ us) ∧ r = (none, 15))) := by
  by_cases h1 : us.length < 1
  · have d1 : decide ((us.length : Int) < (1:Int)) = true := decide_eq_true (by omega)
    exact ⟨_, by simp only [label_New, up_len, d1, cond_true], .inl ⟨.inl h1, rfl⟩⟩
  have d1 : decide ((us.length : Int) < (1:Int)) = false := decide_eq_false (by omega)
  by_cases h2 : us.length > 16
  · have d2 : decide ((us.length : Int) > (16:Int)) = true := decide_eq_true (by omega)
    exact ⟨_, by simp only [label_New, up_len, d1, d2, cond_true, cond_false], .inl ⟨.inr h2, rfl⟩⟩
  have d2 : decide ((us.length : Int) > (16:Int)) = false := decide_eq_false (by omega)
  have hmk : mkOK (us.length : Int) (us.length : Int) = true := by simp [mkOK]; omega
  have hc : slices_Clone_uint64_uint64 (up us) = some (up us) := gd_true (room_le (by rw [up_len]; simp; omega))
  have hj : label_New (up us) = label_New_j0 (up us) (latD us (List.replicate us.length (0:Int))) := by
    simp only [label_New, up_len, d1, d2, cond_false, hc, Option.bind_some, gd_true hmk]
    rfl
  rw [hj]
  have ho := orders_eq hw (by omega) (latD us (List.replicate us.length (0:Int))) rfl
  have hi := ordB_iff hw
  cases hB : ordB us with
  | false =>
    rw [hB] at ho hi
    exact ⟨_, by simp only [label_New_j0, ho, Option.bind_some, Bool.not_false, cond_true], .inr ⟨⟨by omega, by omega⟩, .inr ⟨fun h => (by have := hi.2 h.1; cases this), rfl⟩⟩⟩
  | true =>
    rw [hB] at ho hi
    have hP := hi.1 rfl
    obtain ⟨r, h3, h4⟩ := tables_eq hw (by omega) hP
    have e : label_New_j0 (up us) (latD us (List.replicate us.length (0:Int))) = joinO (some r) label_New_j4 := by
      simp only [label_New_j0, ho, Option.bind_some, Bool.not_true, cond_false, down_eq hw (show us.length ≤ 16 by omega), label_New_j1, h3]
    rw [e]
    rcases h4 with ⟨g, rfl⟩ | ⟨g, rfl⟩
    · exact ⟨fin, hfin (by omega) (by omega) hP g, .inr ⟨⟨by omega, by omega⟩, .inl ⟨hP, g, rfl⟩⟩⟩
    · exact ⟨_, rfl, .inr ⟨⟨by omega, by omega⟩, .inr ⟨fun h => g h.2, rfl⟩⟩⟩
end Go.Proofs.Ytbdbeenkamcglaa
