/- Bytes as text: when are two one? Plain. -/
import Derived.Test.YtijcfglomdfglaaGvOctet
set_option linter.unusedVariables false
set_option linter.unusedSimpArgs false
namespace Go.V
open Go
theorem toList_loop (x : ByteArray) : ∀ (n i : Nat) (r : List UInt8), x.size - i = n → ByteArray.toList.loop x i r = r.reverse ++ x.data.toList.drop i := by
  intro n
  induction n with
  | zero =>
    intro i r h
    rw [ByteArray.toList.loop]
    have : ¬ i < x.size := by omega
    rw [if_neg this]
    have hl : x.data.toList.length ≤ i := by
      have : x.data.toList.length = x.size := Array.length_toList
      omega
    rw [List.drop_eq_nil_of_le hl, List.append_nil]
  | succ n ih =>
    intro i r h
    rw [ByteArray.toList.loop]
    have hi : i < x.size := by omega
    have hl : i < x.data.toList.length := by rw [Array.length_toList]; exact hi
    rw [if_pos hi, ih (i + 1) _ (by omega), List.reverse_cons, List.append_assoc, List.drop_eq_getElem_cons hl]
    have hg : x.get! i = x.data.toList[i] := by
      have : i < x.data.size := hi
      show x.data[i]! = _
      rw [getElem!_pos x.data i this, Array.getElem_toList]
    rw [hg]; rfl
theorem toList_data (x : ByteArray) : x.toList = x.data.toList := by
  rw [ByteArray.toList, toList_loop x x.size 0 [] (by omega)]; simp
theorem toStr_data (xs : List Int) : (toStr xs).data.toList = xs.map fun n => UInt8.ofNat n.toNat := by
  have key : ∀ (xs : List Int) (s : ByteArray), (xs.foldl (fun s n => s.push (UInt8.ofNat n.toNat)) s).data.toList = s.data.toList ++ xs.map fun n => UInt8.ofNat n.toNat := by
    intro xs
    induction xs with
    | nil => intro s; simp
    | cons x xs ih => intro s; rw [List.foldl_cons, ih]; simp [ByteArray.push]
  rw [toStr, key]; simp
theorem sEq_toStr {a b : List Int} (ha : ∀ x ∈ a, isU8 x) (hb : ∀ x ∈ b, isU8 x) : sEq (toStr a) (toStr b) = decide (a = b) := by
  unfold sEq
  rw [toList_data, toList_data, toStr_data, toStr_data]
  have inj : ∀ {a b : List Int}, (∀ x ∈ a, isU8 x) → (∀ x ∈ b, isU8 x) → (a.map fun n => UInt8.ofNat n.toNat) = (b.map fun n => UInt8.ofNat n.toNat) → a = b := by
    intro a
    induction a with
    | nil => intro b _ _ h; cases b with
      | nil => rfl
      | cons => simp at h
    | cons x a ih =>
      intro b ha hb h
      cases b with
      | nil => simp at h
      | cons y b =>
        simp only [List.map_cons, List.cons.injEq] at h
        have h1 := ha x (by simp)
        have h2 := hb y (by simp)
        have h3 := congrArg UInt8.toNat h.1
        simp only [UInt8.toNat_ofNat'] at h3
        obtain ⟨a1, a2⟩ := h1
        obtain ⟨b1, b2⟩ := h2
        have e1 : (2:Nat) ^ 8 = 256 := by decide
        rw [e1] at h3
        have : x = y := by omega
        rw [this, ih (fun x hx => ha x (by simp [hx])) (fun x hx => hb x (by simp [hx])) h.2]
  by_cases h : a = b
  · subst h; simp
  · have : ¬ (a.map fun n => UInt8.ofNat n.toNat) = (b.map fun n => UInt8.ofNat n.toNat) := fun e => h (inj ha hb e)
    simp [h, this]
theorem toStr_refl (x : ByteArray) : sEq x x = true := by simp [sEq]
end Go.V
