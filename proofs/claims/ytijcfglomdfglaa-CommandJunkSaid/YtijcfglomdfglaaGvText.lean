/- Bytes as text: when are two one? Plain. -/
import Derived.Test.YtijcfglomdfglaaGvOctet
set_option linter.unusedVariables false
set_option linter.unusedSimpArgs false
namespace Go.V
open Go
theorem toList_loop (x : ByteArray) : ∀ (n i : Nat) (r : List UInt8), x.size - i = n → ByteArray.toList.loop x i r = r.reverse ++ x.data.toList.drop i := by
  intro n
  induction n with
  | zero =>
    intro i r h
    rw [ByteArray.toList.loop]
    have : ¬ i < x.size := by omega
    rw [if_neg this]
    have hl : x.data.toList.length ≤ i := by
      have : x.data.toList.length = x.size := Array.length_toList
      omega
    rw [List.drop_eq_nil_of_le hl, List.append_nil]
  | succ n ih =>
    intro i r h
    rw [ByteArray.toList.loop]
    have hi : i < x.size := by omega
    have hl : i < x.data.toList.length := by rw [Array.length_toList]; exact hi
    rw [if_pos hi, ih (i + 1) _ (by omega), List.reverse_cons, List.append_assoc, List.drop_eq_getElem_cons hl]
    have hg : x.get! i = x.data.toList[i] := by
      have : i < x.data.size := hi
      show x.data[i]! = _
      rw [getElem!_pos x.data i this, Array.getElem_toList]
    rw [hg]; rfl
theorem toList_data (x : ByteArray) : x.toList = x.data.toList := by
  rw [ByteArray.toList, toList_loop x x.size 0 [] (by omega)]; simp
theorem toStr_data (xs : List Int) : (toStr xs).data.toList = xs.map fun n => UInt8.ofNat n.toNat := by
  have key : ∀ (xs : List Int) (s : ByteArray), (xs.foldl (fun s n => s.push (UInt8.ofNat n.toNat)) s).data.toList = s.data.toList ++ xs.map fun n => UInt8.ofNat n.toNat := by
    intro xs
    induction xs with
    | nil => intro s; simp
    | cons x xs ih => intro s; rw [List.foldl_cons, ih]; simp [ByteArray.push]
  rw [toStr, key]; simp
theorem sEq_toStr {a b : List Int} (ha : ∀ x ∈ a, isU8 x) (hb : ∀ x ∈ b, isU8 x) : sEq (toStr a) (toStr b) = decide (a = b) := by
  unfold sEq
  rw [toList_data, toList_data, toStr_data, toStr_data]
  have inj : ∀ {a b : List Int}, (∀ x ∈ a, isU8 x) → (∀ x ∈ b, isU8 x) → (a.map fun n => UInt8.ofNat n.toNat) = (b.map fun n => UInt8.ofNat n.toNat) → a = b := by
    intro a
    induction a with
    | nil => intro b _ _ h; cases b with
      | nil => rfl
      | cons => simp at h
    | cons x a ih =>
      intro b ha hb h
      cases b with
      | nil => simp at h
      | cons y b =>
        simp only [List.map_cons, List.cons.injEq] at h
        have h1 := ha x (by simp)
        have h2 := hb y (by simp)
        have h3 := congrArg UInt8.toNat h.1
        simp only [UInt8.toNat_ofNat'] at h3
        obtain ⟨a1, a2⟩ := h1
        obtain ⟨b1, b2⟩ := h2
        have e1 : (2:Nat) ^ 8 = 256 := by decide
        rw [e1] at h3
        have : x = y := by omega
        rw [this, ih (fun x hx => ha x (by simp [hx])) (fun x hx => hb x (by simp [hx])) h.2]
  by_cases h : a = b
  · subst h; simp
  · have : ¬ (a.map fun n => UInt8.ofNat n.toNat) = (b.map fun n => UInt8.ofNat n.toNat) := fun e => h (inj ha hb e)
    simp [h, this]
/-- A loop that looks whether all is as it should be. -/
theorem scan_loop {R : Type} {body : Int → Option (Int ⊕ R)} (no yes : R) (n : Nat) (P : Nat → Prop) (hn : n ≤ 1000000000) (hstep : ∀ i, i < n → (P i ∧ body (i : Int) = some (.inl (IntKind.i64.wrap ((i : Int) + (1:Int))))) ∨ body (i : Int) = some (.inr no))
    (hend : body (n : Int) = some (.inr yes)) : (loopO body (0:Int) = some yes ∧ ∀ i, i < n → P i) ∨ loopO body (0:Int) = some no := by
  have key : ∀ k, k ≤ n → (loopO body ((n - k : Nat) : Int) = some yes ∧ ∀ i, n - k ≤ i → i < n → P i) ∨ loopO body ((n - k : Nat) : Int) = some no := by
    intro k
    induction k with
    | zero => intro _; exact .inl ⟨by rw [loopO_eq, Nat.sub_zero, hend]; rfl, fun i h1 h2 => by omega⟩
    | succ k ih =>
      intro hk
      have e : IntKind.i64.wrap (((n - (k + 1) : Nat) : Int) + (1:Int)) = ((n - k : Nat) : Int) := by rw [wrap_i64] <;> omega
      rcases hstep (n - (k + 1)) (by omega) with ⟨hP, hb⟩ | hb
      · have hl : loopO body ((n - (k + 1) : Nat) : Int) = loopO body ((n - k : Nat) : Int) := by rw [loopO_eq, hb, e]; rfl
        rw [hl]
        rcases ih (by omega) with ⟨h1, h2⟩ | h1
        · refine .inl ⟨h1, fun i h3 h4 => ?_⟩
          by_cases hi : i = n - (k + 1)
          · rw [hi]; exact hP
          · exact h2 i (by omega) h4
        · exact .inr h1
      · exact .inr (by rw [loopO_eq, hb]; rfl)
  have h := key n (Nat.le_refl n)
  simpa using h
theorem toStr_refl (x : ByteArray) : sEq x x = true := by simp [sEq]
end Go.V
