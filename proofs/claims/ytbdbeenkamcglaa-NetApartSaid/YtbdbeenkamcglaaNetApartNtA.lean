/- The net: its links, and what is put, taken, doubled; plainly. -/
import Derived.Test.YtbdbeenkamcglaaNetApartCgA
import Derived.Test.YtbdbeenkamcglaaNetApartGv
set_option linter.unusedVariables false
set_option linter.unusedSimpArgs false
set_option maxRecDepth 100000
namespace Go.Proofs.Ytbdbeenkamcglaa
open Go Go.V
def ntP : config_Plan := plS [3, 2] 3 []
def ntN (m : Option (net_Link × List (List Int))) : Option net_Net := some { p := some ntP, m := m }
theorem nt_open : law21_open = some (ntN none) := by
  have hl : label_New (up [3, 2]) = some (some (latF [3, 2]), 0) := new_known (by decide +kernel) (by decide +kernel) (by decide +kernel) (by decide) (by decide)
  have e0 : ref03_Lattices 0 = some (up [3, 2]) := by decide
  have hs : ref04_Small 0 = some (smC [3, 2] 1 []) := by
    unfold ref04_Small
    rw [e0, Option.bind_some]
    rfl
  have hr : number_Rising [] = some true := by unfold number_Rising; rw [loopO_eq]; rfl
  have hn := new_small (us := [3, 2]) (n := 3) (cuts := []) (by decide) (by decide) hl hr
  unfold law21_open
  rw [hs, Option.bind_some]
  show (config_New (smC [3, 2] 3 [])).bind _ = _
  rw [hn]; rfl
def lkB (l : net_Link) : Bool := (decide (l.From ≥ 0) && decide (l.From < 3)) && ((decide (l.To ≥ 0) && decide (l.To < 3)) && (l.From != l.To && (decide (l.Lane ≥ 0) && decide (l.Lane < 3))))
theorem nt_node (a : Int) : config_Plan_Node (some ntP) a = some (decide (a ≥ 0) && decide (a < 3)) := by
  show (bif decide (a ≥ (0:Int)) then some (decide (a < 3)) else some false) = _
  cases decide (a ≥ (0:Int)) <;> rfl
theorem nt_label (a : Int) : ∃ x, config_Plan_Label (some ntP) a = some x ∧ decide (x ≥ 0) = (decide (a ≥ 0) && decide (a < 3)) := by
  have h1 : config_Plan_Lanes (some ntP) = some 3 := lanes_eq (us := [3, 2]) (n := 3) (cuts := []) (by decide) (by decide)
  have h2 : config_Plan_Rules (some ntP) = some 2 := rules_eq (us := [3, 2]) (n := 3) (cuts := []) (by decide) (by decide)
  have h3 : config_Plan_Shards (some ntP) = some 1 := shards_eq (us := [3, 2]) (n := 3) (cuts := []) (by decide)
  have h4 := bottom_eq (us := [3, 2]) (by decide) (by decide)
  have h4 : label_Lattice_Bottom ntP.L = _ := h4
  unfold config_Plan_Label
  simp only [h1, h2, h3, h4, Option.bind_some]
  by_cases c1 : a < 0
  · have c2 : ¬ a ≥ 0 := by omega
    exact ⟨-1, by simp [c1], by simp [c2]⟩
  · by_cases c3 : a ≥ 3
    · have c4 : ¬ a < 3 := by omega
      exact ⟨-1, by simp [c1, c3], by simp [c4]⟩
    · have c5 : a = 0 ∨ a = 1 ∨ a = 2 := by omega
      rcases c5 with rfl | rfl | rfl
      · exact ⟨0, rfl, rfl⟩
      · exact ⟨1, rfl, rfl⟩
      · exact ⟨_, rfl, by simp⟩
theorem nt_is (m : Option (net_Link × List (List Int))) (l : net_Link) : net_Net_is (ntN m) l = some (lkB l) := by
  obtain ⟨x, h1, h2⟩ := nt_label l.Lane
  unfold net_Net_is ntN
  dsimp only
  rw [nt_node, nt_node, Option.bind_some, Option.bind_some, h1, Option.bind_some, h2]
  unfold lkB
  cases (decide (l.From ≥ 0) && decide (l.From < 3)) with
  | false => rfl
  | true =>
    cases (decide (l.To ≥ 0) && decide (l.To < 3)) with
    | false => rfl
    | true => cases l.From != l.To <;> rfl
theorem nt_keq (l : net_Link) : ((l.From == l.From) && (l.To == l.To) && (l.Lane == l.Lane)) = true := by simp
theorem nt_fits {α : Type} {A : List α} {i j : Nat} (h1 : i ≤ j) (h2 : j ≤ A.length) : fits A (i : Int) (j : Int) = true := by
  unfold fits
  simp
  omega
theorem nt_cl {v : List Int} (hv : v.length ≤ 1000) : slices_Clone_byte_byte v = some v := gd_true (room_le (by simp only [List.length_nil]; omega))
theorem nt_putE (l : net_Link) {v : List Int} (hv : v.length ≤ 1000) : net_Net_Put (ntN none) l v = some (bif lkB l then (0, ntN (some (l, [v]))) else (1, ntN none)) := by
  show (net_Net_is (ntN none) l).bind _ = _
  rw [nt_is, Option.bind_some]
  cases lkB l with
  | false => rfl
  | true =>
    show (slices_Clone_byte_byte v).bind _ = _
    rw [nt_cl hv, Option.bind_some]
    rw [gd_true (room_one (by simp))]
    rfl
theorem nt_cut {n : Nat} (hn : n ≤ 1000000) : (if IntKind.i64.wrap ((n : Int) - (256:Int)) > (0:Int) then IntKind.i64.wrap ((n : Int) - (256:Int)) else (0:Int)) = ((n - 256 : Nat) : Int) := by
  have : IntKind.i64.wrap ((n : Int) - (256:Int)) = (n : Int) - 256 := by rw [wrap_i64] <;> omega
  rw [this]
  split <;> omega
theorem nt_putC {l : net_Link} (hl : lkB l = true) {xs : List (List Int)} {v : List Int} (hx : xs.length ≤ 1000) (hv : v.length ≤ 1000) : net_Net_Put (ntN (some (l, xs))) l v = some (0, ntN (some (l, (xs ++ [v]).drop (xs.length + 1 - 256)))) := by
  have hlen : (xs ++ [v]).length = xs.length + 1 := by simp
  show (net_Net_is (ntN (some (l, xs))) l).bind _ = _
  rw [nt_is, Option.bind_some, hl]
  show (bif ((l.From == l.From) && (l.To == l.To) && (l.Lane == l.Lane)) then _ else _) = _
  rw [nt_keq, cond_true, nt_cl hv, Option.bind_some]
  dsimp only
  rw [gd_true (room_one (by omega)), nt_cut (by omega), gd_true (nt_fits (by omega) (Nat.le_refl _))]
  have hs : subs (xs ++ [v]) (((xs ++ [v]).length - 256 : Nat) : Int) (((xs ++ [v]).length : Nat) : Int) = (xs ++ [v]).drop (xs.length + 1 - 256) := by
    unfold subs
    rw [Int.toNat_natCast, Int.toNat_natCast, List.take_length, hlen]
  rw [hs]; rfl
theorem nt_mod {i n : Nat} (hi : i < 1000000) (hn : n ≤ 1000000) : IntKind.i64.wrap (Int.tmod (IntKind.u64.wrap (i : Int)) (IntKind.u64.wrap (n : Int))) = ((i % n : Nat) : Int) := by
  have h1 : IntKind.u64.wrap (i : Int) = (i : Int) := by rw [wrap_u64] <;> omega
  have h2 : IntKind.u64.wrap (n : Int) = (n : Int) := by rw [wrap_u64] <;> omega
  have h3 : i % n ≤ i := Nat.mod_le _ _
  rw [h1, h2, tmod_nat, wrap_i64] <;> omega
theorem nt_placeC {l : net_Link} (hl : lkB l = true) {xs : List (List Int)} (h0 : 0 < xs.length) (hx : xs.length ≤ 1000) {i : Nat} (hi : i < 1000) : net_Net_place (ntN (some (l, xs))) l (i : Int) = some ((i % xs.length : Nat) : Int) := by
  show (bif ((l.From == l.From) && (l.To == l.To) && (l.Lane == l.Lane)) then ((net_Net_is (ntN (some (l, xs))) l).bind _) else _) = _
  rw [nt_keq, cond_true, nt_is, Option.bind_some, hl]
  have e1 : (((xs.length : Nat) : Int) == (0:Int)) = false := beq_eq_false_iff_ne.2 (by omega)
  have e2 : (!(IntKind.u64.wrap ((xs.length : Nat) : Int) == (0:Int))) = true := by
    have : IntKind.u64.wrap ((xs.length : Nat) : Int) = (xs.length : Int) := by rw [wrap_u64] <;> omega
    rw [this, e1]; rfl
  show (bif !true then _ else (bif (((xs.length : Nat) : Int) == (0:Int)) then _ else gd (!(IntKind.u64.wrap ((xs.length : Nat) : Int) == (0:Int))) (some (IntKind.i64.wrap (Int.tmod (IntKind.u64.wrap (i : Int)) (IntKind.u64.wrap ((xs.length : Nat) : Int))))))) = _
  rw [e1, gd_true e2, nt_mod (by omega) (by omega)]; rfl
theorem nt_placeN {l k : net_Link} (h : ((l.From == k.From) && (l.To == k.To) && (l.Lane == k.Lane)) = false) (xs : List (List Int)) (i : Int) : net_Net_place (ntN (some (k, xs))) l i = some (-1) := by
  show (bif ((l.From == k.From) && (l.To == k.To) && (l.Lane == k.Lane)) then _ else ((net_Net_is (ntN (some (k, xs))) l).bind _)) = _
  rw [h, cond_false, nt_is, Option.bind_some]
  cases lkB l <;> rfl
theorem nt_takeC {l : net_Link} (hl : lkB l = true) {xs : List (List Int)} (hx : xs.length ≤ 1000) {i : Nat} (hi : i < 1000) {x : List Int} (hg : xs[i % xs.length]? = some x) : net_Net_Take (ntN (some (l, xs))) l (i : Int) = some (x, true, ntN (some (l, del xs ((i % xs.length : Nat) : Int) ((i % xs.length + 1 : Nat) : Int)))) := by
  have hlt := (List.getElem?_eq_some_iff.1 hg).1
  show (net_Net_place (ntN (some (l, xs))) l (i : Int)).bind _ = _
  rw [nt_placeC hl (by omega) hx hi, Option.bind_some]
  have e1 : decide (((i % xs.length : Nat) : Int) < (0:Int)) = false := decide_eq_false (by omega)
  have e2 : IntKind.i64.wrap (((i % xs.length : Nat) : Int) + (1:Int)) = ((i % xs.length + 1 : Nat) : Int) := wrap_succ (by omega)
  show (bif decide (((i % xs.length : Nat) : Int) < (0:Int)) then _ else bif ((l.From == l.From) && (l.To == l.To) && (l.Lane == l.Lane)) then _ else _) = _
  rw [e1, cond_false, nt_keq, cond_true, geto_nat, hg, Option.bind_some, e2]
  show (slices_Delete_byte_byte xs _ _).bind _ = _
  unfold slices_Delete_byte_byte
  rw [gd_true (nt_fits (by omega) (by omega))]; rfl
theorem nt_takeN {m : Option (net_Link × List (List Int))} {l : net_Link} {i : Int} (h : net_Net_place (ntN m) l i = some (-1)) : net_Net_Take (ntN m) l i = some ([], false, ntN m) := by
  show (net_Net_place (ntN m) l i).bind _ = _
  rw [h]; rfl
theorem nt_lenC (l : net_Link) (xs : List (List Int)) : net_Net_Len (ntN (some (l, xs))) l = some (bif lkB l then (xs.length : Int) else 0) := by
  show (net_Net_is (ntN (some (l, xs))) l).bind _ = _
  rw [nt_is, Option.bind_some]
  cases lkB l with
  | false => rfl
  | true =>
    show (bif ((l.From == l.From) && (l.To == l.To) && (l.Lane == l.Lane)) then _ else _) = _
    rw [nt_keq]; rfl
theorem nt_lenE (l : net_Link) : net_Net_Len (ntN none) l = some 0 := by
  show (net_Net_is (ntN none) l).bind _ = _
  rw [nt_is, Option.bind_some]
  cases lkB l <;> rfl
theorem nt_awake : law21_awake = some true := by
  have hl : lkB { From := 0, To := 1, Lane := 2 } = true := rfl
  have h1 := nt_putE { From := 0, To := 1, Lane := 2 } (v := [97]) (by simp)
  have h2 := nt_putC hl (xs := [[97]]) (v := [98]) (by simp) (by simp)
  have h3 := nt_takeC hl (xs := [[97], [98]]) (by simp) (i := 3) (by omega) (x := [98]) rfl
  have h4 := nt_lenC { From := 0, To := 1, Lane := 2 } [[97]]
  rw [hl] at h1 h4
  have h2 : net_Net_Put (ntN (some ({ From := 0, To := 1, Lane := 2 }, [[97]]))) { From := 0, To := 1, Lane := 2 } [98] = some (0, ntN (some ({ From := 0, To := 1, Lane := 2 }, [[97], [98]]))) := h2
  have h3 : net_Net_Take (ntN (some ({ From := 0, To := 1, Lane := 2 }, [[97], [98]]))) { From := 0, To := 1, Lane := 2 } 3 = some ([98], true, ntN (some ({ From := 0, To := 1, Lane := 2 }, [[97]]))) := h3
  unfold law21_awake
  rw [nt_open, Option.bind_some, show (ntN none).isNone = false from rfl, cond_false]
  rw [h1, Option.bind_some]
  show (net_Net_Put (ntN (some (_, [[97]]))) _ _).bind _ = _
  rw [h2, Option.bind_some]
  show (net_Net_Take (ntN (some (_, [[97], [98]]))) _ _).bind _ = _
  rw [h3, Option.bind_some]
  show (bif sEq (toStr [98]) (ByteArray.mk #[98]) then (net_Net_Len (ntN (some (_, [[97]]))) _).bind _ else _) = _
  rw [h4]
  have hq : sEq (toStr [98]) (ByteArray.mk #[98]) = true := by decide +kernel
  rw [hq]; rfl
end Go.Proofs.Ytbdbeenkamcglaa
