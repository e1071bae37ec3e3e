/- The laws of a lattice: least and greatest of any two; plainly. -/
import Derived.Test.YtddhkbholbcebaaLabelLawsLbW
set_option linter.unusedVariables false
set_option linter.unusedSimpArgs false
set_option maxRecDepth 100000
namespace Go.Proofs.Ytddhkbholbcebaa
open Go Go.V
variable {us : List Nat}
theorem ord_refl (hP : ordP us) {a : Nat} (ha : a < us.length) : le us a a = true := (hP a ha).2.1
theorem ord_anti (hP : ordP us) {a b : Nat} (ha : a < us.length) (hb : b < us.length) (h1 : le us a b = true) (h2 : le us b a = true) : a = b := by
  rcases Nat.decEq a b with h | h
  · exact absurd ⟨h, h1, h2⟩ ((hP a ha).2.2 b hb).1
  · exact h
theorem ord_trans (hP : ordP us) {a b c : Nat} (ha : a < us.length) (hb : b < us.length) (hc : c < us.length) (h1 : le us a b = true) (h2 : le us b c = true) : le us a c = true := ((hP a ha).2.2 b hb).2 c hc h1 h2
/-- The least one above two. -/
def isJ (us : List Nat) (a b c : Nat) : Prop := c < us.length ∧ le us a c = true ∧ le us b c = true ∧ ∀ d, d < us.length → le us a d = true → le us b d = true → le us c d = true
def isM (us : List Nat) (a b c : Nat) : Prop := c < us.length ∧ le us c a = true ∧ le us c b = true ∧ ∀ d, d < us.length → le us d a = true → le us d b = true → le us d c = true
theorem jI_is (hJ : okJ us) {a b : Nat} (ha : a < us.length) (hb : b < us.length) : ∃ c : Nat, jI us a b = (c : Int) ∧ isJ us a b c := by
  have h := hJ a ha b hb
  unfold hasB at h
  rw [Bool.and_eq_true] at h
  cases hf : fstN us.length (jB us a b) with
  | none => rw [hf] at h; cases h.1
  | some c =>
    obtain ⟨h1, h2, _⟩ := fstN_some hf
    refine ⟨c, by rw [jI, hf]; rfl, h1, ?_⟩
    unfold jB at h2
    simp only [Bool.and_eq_true, List.all_eq_true, List.mem_range, Bool.or_eq_true, Bool.not_eq_true', Bool.and_eq_false_iff] at h2
    refine ⟨h2.1.1, h2.1.2, fun d hd g1 g2 => ?_⟩
    rcases h2.2 d hd with (h | h) | h
    · rw [g1] at h; cases h
    · rw [g2] at h; cases h
    · exact h
theorem mI_is (hJ : okJ us) {a b : Nat} (ha : a < us.length) (hb : b < us.length) : ∃ c : Nat, mI us a b = (c : Int) ∧ isM us a b c := by
  have h := hJ a ha b hb
  unfold hasB at h
  rw [Bool.and_eq_true] at h
  cases hf : fstN us.length (mB us a b) with
  | none => rw [hf] at h; cases h.2
  | some c =>
    obtain ⟨h1, h2, _⟩ := fstN_some hf
    refine ⟨c, by rw [mI, hf]; rfl, h1, ?_⟩
    unfold mB at h2
    simp only [Bool.and_eq_true, List.all_eq_true, List.mem_range, Bool.or_eq_true, Bool.not_eq_true', Bool.and_eq_false_iff] at h2
    refine ⟨h2.1.1, h2.1.2, fun d hd g1 g2 => ?_⟩
    rcases h2.2 d hd with (h | h) | h
    · rw [g1] at h; cases h
    · rw [g2] at h; cases h
    · exact h
theorem isJ_one (hP : ordP us) {a b a' b' c d : Nat} (h : isJ us a b c) (k : isJ us a' b' d) (h1 : ∀ x, x < us.length → (le us a x = true ∧ le us b x = true ↔ le us a' x = true ∧ le us b' x = true)) : c = d :=
  ord_anti hP h.1 k.1 (h.2.2.2 d k.1 ((h1 d k.1).2 ⟨k.2.1, k.2.2.1⟩).1 ((h1 d k.1).2 ⟨k.2.1, k.2.2.1⟩).2) (k.2.2.2 c h.1 ((h1 c h.1).1 ⟨h.2.1, h.2.2.1⟩).1 ((h1 c h.1).1 ⟨h.2.1, h.2.2.1⟩).2)
theorem isM_one (hP : ordP us) {a b a' b' c d : Nat} (h : isM us a b c) (k : isM us a' b' d) (h1 : ∀ x, x < us.length → (le us x a = true ∧ le us x b = true ↔ le us x a' = true ∧ le us x b' = true)) : c = d :=
  ord_anti hP h.1 k.1 (k.2.2.2 c h.1 ((h1 c h.1).1 ⟨h.2.1, h.2.2.1⟩).1 ((h1 c h.1).1 ⟨h.2.1, h.2.2.1⟩).2) (h.2.2.2 d k.1 ((h1 d k.1).2 ⟨k.2.1, k.2.2.1⟩).1 ((h1 d k.1).2 ⟨k.2.1, k.2.2.1⟩).2)
theorem isJ_up (hP : ordP us) {a b c x : Nat} (ha : a < us.length) (hb : b < us.length) (h : isJ us a b c) (hx : x < us.length) : le us c x = true ↔ le us a x = true ∧ le us b x = true :=
  ⟨fun g => ⟨ord_trans hP ha h.1 hx h.2.1 g, ord_trans hP hb h.1 hx h.2.2.1 g⟩, fun g => h.2.2.2 x hx g.1 g.2⟩
theorem isM_dn (hP : ordP us) {a b c x : Nat} (ha : a < us.length) (hb : b < us.length) (h : isM us a b c) (hx : x < us.length) : le us x c = true ↔ le us x a = true ∧ le us x b = true :=
  ⟨fun g => ⟨ord_trans hP hx h.1 ha g h.2.1, ord_trans hP hx h.1 hb g h.2.2.1⟩, fun g => h.2.2.2 x hx g.1 g.2⟩
theorem cnt_lt {n j : Nat} {f g : Nat → Bool} (h : ∀ i, i < n → f i = true → g i = true) (hj : j < n) (h1 : g j = true) (h2 : f j = false) : cnt n f < cnt n g := by
  have mono : ∀ m, m ≤ n → cnt m f ≤ cnt m g := fun m => by
    induction m with
    | zero => intro _; exact Nat.le_refl _
    | succ m ih =>
      intro hm
      rw [cnt_succ, cnt_succ]
      have := ih (by omega)
      cases hf : f m with
      | false => simp; omega
      | true => rw [h m (by omega) hf]; simp; omega
  have key : ∀ m, j < m → m ≤ n → cnt m f < cnt m g := fun m => by
    induction m with
    | zero => intro h; omega
    | succ m ih =>
      intro h3 h4
      rw [cnt_succ, cnt_succ]
      by_cases e : m = j
      · subst e
        have := mono m (by omega)
        rw [h1, h2]; simp; omega
      · have := ih (by omega) (by omega)
        cases hf : f m with
        | false => simp; omega
        | true => rw [h m (by omega) hf]; simp; omega
  exact key n hj (Nat.le_refl n)
theorem kW_lt (hP : ordP us) (hn : us.length ≤ 16) {a b : Nat} (ha : a < us.length) (hb : b < us.length) (h : le us a b = true) (hne : a ≠ b) : kW us a < kW us b := by
  have : wt us a < wt us b := cnt_lt (fun i hi g => ord_trans hP hi ha hb g h) hb (ord_refl hP hb) (by
    cases e : le us b a with
    | false => rfl
    | true => exact absurd (ord_anti hP ha hb h e) hne)
  unfold kW; omega
theorem ps_le (hP : ordP us) (hn : us.length ≤ 16) {a b : Nat} (ha : a < us.length) (hb : b < us.length) (h : le us a b = true) : ps us a ≤ ps us b := by
  by_cases hne : a = b
  · subst hne; exact Int.le_refl _
  have hk := kW_lt hP hn ha hb h hne
  obtain ⟨i, hi, rfl⟩ := List.mem_iff_getElem.1 (srt_mem.2 ha)
  obtain ⟨j, hj, rfl⟩ := List.mem_iff_getElem.1 (srt_mem.2 hb)
  rw [ps_at hn hi, ps_at hn hj]
  rcases Nat.lt_or_ge j i with e | e
  · have := (srt_rise hn).lt hj hi e; omega
  · omega
theorem least_all (hP : ordP us) (hJ : okJ us) (h1 : 1 ≤ us.length) : ∃ z, z < us.length ∧ ∀ a, a < us.length → le us z a = true := by
  have key : ∀ m, 1 ≤ m → m ≤ us.length → ∃ z, z < us.length ∧ ∀ a, a < m → le us z a = true := fun m => by
    induction m with
    | zero => intro h; omega
    | succ m ih =>
      intro _ hm
      by_cases h0 : m = 0
      · subst h0; exact ⟨0, by omega, fun a ha => by have : a = 0 := by omega
                                                     subst this; exact ord_refl hP (by omega)⟩
      · obtain ⟨z, hz, hall⟩ := ih (by omega) (by omega)
        obtain ⟨c, _, hc⟩ := mI_is hJ hz (show m < us.length by omega)
        refine ⟨c, hc.1, fun a ha => ?_⟩
        by_cases e : a = m
        · subst e; exact hc.2.2.1
        · exact ord_trans hP hc.1 hz (by omega) hc.2.1 (hall a (by omega))
  exact key us.length h1 (Nat.le_refl _)
theorem most_all (hP : ordP us) (hJ : okJ us) (h1 : 1 ≤ us.length) : ∃ z, z < us.length ∧ ∀ a, a < us.length → le us a z = true := by
  have key : ∀ m, 1 ≤ m → m ≤ us.length → ∃ z, z < us.length ∧ ∀ a, a < m → le us a z = true := fun m => by
    induction m with
    | zero => intro h; omega
    | succ m ih =>
      intro _ hm
      by_cases h0 : m = 0
      · subst h0; exact ⟨0, by omega, fun a ha => by have : a = 0 := by omega
                                                     subst this; exact ord_refl hP (by omega)⟩
      · obtain ⟨z, hz, hall⟩ := ih (by omega) (by omega)
        obtain ⟨c, _, hc⟩ := jI_is hJ hz (show m < us.length by omega)
        refine ⟨c, hc.1, fun a ha => ?_⟩
        by_cases e : a = m
        · subst e; exact hc.2.2.1
        · exact ord_trans hP (by omega) hz hc.1 (hall a (by omega)) hc.2.1
  exact key us.length h1 (Nat.le_refl _)
theorem bottom_le (hP : ordP us) (hJ : okJ us) (h1 : 1 ≤ us.length) (hn : us.length ≤ 16) (h0 : 0 < (srt us).length) {a : Nat} (ha : a < us.length) : le us (srt us)[0] a = true := by
  obtain ⟨z, hz, hall⟩ := least_all hP hJ h1
  have hb := srt_mem.1 (List.getElem_mem h0)
  have e : (srt us)[0] = z := by
    rcases Nat.decEq (srt us)[0] z with h | h
    · have h3 := kW_lt hP hn hz hb (hall _ hb) fun e => h e.symm
      obtain ⟨i, hi, e2⟩ := List.mem_iff_getElem.1 (srt_mem.2 hz)
      subst e2
      rcases Nat.eq_zero_or_pos i with e | e
      · subst e; exact absurd rfl h
      · have := (srt_rise hn).lt h0 hi e; omega
    · exact h
  rw [e]; exact hall a ha
theorem top_ge (hP : ordP us) (hJ : okJ us) (h1 : 1 ≤ us.length) (hn : us.length ≤ 16) (h0 : us.length - 1 < (srt us).length) {a : Nat} (ha : a < us.length) : le us a (srt us)[us.length - 1] = true := by
  obtain ⟨z, hz, hall⟩ := most_all hP hJ h1
  have hb := srt_mem.1 (List.getElem_mem h0)
  have e : (srt us)[us.length - 1] = z := by
    rcases Nat.decEq (srt us)[us.length - 1] z with h | h
    · have h3 := kW_lt hP hn hb hz (hall _ hb) h
      obtain ⟨i, hi, e2⟩ := List.mem_iff_getElem.1 (srt_mem.2 hz)
      have hsl := srt_len hn
      subst e2
      rcases Nat.lt_or_ge i (us.length - 1) with e | e
      · have := (srt_rise hn).lt hi h0 e; omega
      · have : i = us.length - 1 := by omega
        subst this; exact absurd rfl h
    · exact h
  rw [e]; exact hall a ha
end Go.Proofs.Ytddhkbholbcebaa
