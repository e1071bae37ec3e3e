/- The order of the labels: by how many are below; plainly. -/
import Derived.Test.YtbdbeenkamcglaaNetMostLbN
set_option linter.unusedVariables false
set_option linter.unusedSimpArgs false
set_option maxRecDepth 100000
namespace Go.Proofs.Ytbdbeenkamcglaa
open Go Go.V
variable {us : List Nat}
/-- How many are at or below a label. -/
def wt (us : List Nat) (a : Nat) : Nat := cnt us.length fun i => le us i a
def kW (us : List Nat) (a : Nat) : Int := (wt us a : Int) * 64 + a
theorem wt_le (us : List Nat) (a : Nat) : wt us a ≤ us.length := cnt_le _ _
theorem ones_eqI (a : Int) : math_bits_OnesCount64 a = some (bAnd .i64 (IntKind.i64.wrap (o4 32 (o4 16 (o4 8 (o3 (o2 (o1 a))))))) (127:Int)) := by
  simp only [math_bits_OnesCount64, o1, o2, o3, o4]
theorem ones_cnt {x : Nat} (hx : x < 2 ^ 64) : math_bits_OnesCount64 (x : Int) = some ((cnt 64 x.testBit : Nat) : Int) := by rw [ones_eqI, ones_eq hx]
theorem ones_dn (hn : us.length ≤ 16) {a : Nat} : math_bits_OnesCount64 (dnI us us.length a) = some ((wt us a : Nat) : Int) := by
  have e : cnt 64 (dn us us.length a).testBit = wt us a := by
    rw [cnt_ext (m := us.length) (by omega) fun i h1 h2 => by
      rw [dn_bit]
      have : ¬ i < us.length := by omega
      simp [this]]
    exact cnt_congr fun i hi => by rw [dn_bit]; simp [hi]
  rw [show dnI us us.length a = ((dn us us.length a : Nat) : Int) from rfl, ones_cnt (dn_64 us (show us.length ≤ 20 by omega) a), e]
theorem cmp_int (a b : Int) : cmp_Compare_int a b = some (if a < b then -1 else if a > b then 1 else 0) := by
  have h1 : (a != a) = false := by simp
  have h2 : (b != b) = false := by simp
  simp only [cmp_Compare_int, cmp_isNaN_int, Option.bind_some, h1, h2, cond_false]
  by_cases h : a < b
  · simp [h]
  · by_cases h' : a > b
    · simp [h, h']
    · simp [h, h']
theorem swap_set {α : Type} (A R : List α) (p x : α) {j : Nat} (hj : A.length + 1 = j) : ((A ++ p :: x :: R).set j p).set (j - 1) x = A ++ x :: p :: R := by
  subst hj
  rw [List.set_append_right _ _ (by omega), show A.length + 1 - A.length = 1 by omega, Nat.add_sub_cancel, List.set_append_right _ _ (by simp), Nat.sub_self]
  rfl
theorem geto_app {A R : List Nat} {x : Nat} {j : Nat} (hj : A.length = j) : geto (up (A ++ x :: R)) (j : Int) = some (x : Int) := by
  subst hj
  rw [geto_nat]
  simp [up]
theorem up_set (A : List Nat) (j x : Nat) : (up A).set j (x : Int) = up (A.set j x) := by
  apply List.ext_getElem
  · simp [up]
  · intro i h1 h2
    simp only [up, List.getElem_set, List.getElem_map]
    split <;> rfl
theorem ones_tab (hn : us.length ≤ 16) {D : List Int} (hD : D = tab us.length (dnI us us.length)) {x y : Nat} (hx : x < us.length) (hy : y < us.length) {R : Type} (F : Int → Option R) :
    ((geto D (x : Int)).bind fun u => (geto D (y : Int)).bind fun v => (math_bits_OnesCount64 u).bind fun s => (math_bits_OnesCount64 v).bind fun t => (cmp_Compare_int s t).bind fun z => F z) = F (if ((wt us x : Nat) : Int) < ((wt us y : Nat) : Int) then -1 else if ((wt us x : Nat) : Int) > ((wt us y : Nat) : Int) then 1 else 0) := by
  rw [hD, get_tab _ hx, Option.bind_some, get_tab _ hy, Option.bind_some, ones_dn hn, Option.bind_some, ones_dn hn, Option.bind_some, cmp_int, Option.bind_some]
/-- One more is set into its place. -/
theorem insert_eq (hn : us.length ≤ 16) {P rest : List Nat} (hP : Rise (kW us) P) (hm : ∀ p ∈ P, p < P.length) (hi : P.length < us.length) (L : label_Lattice) (hL : L.down = tab us.length (dnI us us.length)) :
    ∃ r, loopO (label_New_l14 (0:Int) L ((P.length : Nat) : Int)) (((P.length : Nat) : Int), up (P ++ P.length :: rest)) = some r ∧ ∃ Q : List Nat, r = Sum.inl (((P.length + 1 : Nat) : Int), up (Q ++ rest)) ∧ Rise (kW us) Q ∧ Q.Perm (P.length :: P) := by
  have hcmp : ∀ p ∈ P, decide ((if (wt us P.length : Int) < (wt us p : Int) then (-1 : Int) else if (wt us P.length : Int) > (wt us p : Int) then 1 else 0) < 0) = decide (kW us P.length < kW us p) := fun p hp => by
    have h1 := hm p hp
    rw [decide_eq_decide]
    unfold kW
    by_cases h : (wt us P.length : Int) < (wt us p : Int)
    · simp only [h, if_true]; omega
    · by_cases h' : (wt us P.length : Int) > (wt us p : Int)
      · simp only [h, h', if_true, if_false]; omega
      · simp only [h, h', if_false]; omega
  refine loop_inv (body := label_New_l14 (0:Int) L ((P.length : Nat) : Int)) (fun s => ∃ j : Nat, j ≤ P.length ∧ s = ((j : Int), up (P.take j ++ P.length :: (P.drop j ++ rest))) ∧ ∀ p ∈ P.drop j, kW us P.length < kW us p) (fun s => s.1.toNat) (fun r => ∃ Q : List Nat, r = Sum.inl (((P.length + 1 : Nat) : Int), up (Q ++ rest)) ∧ Rise (kW us) Q ∧ Q.Perm (P.length :: P)) ?_ (s := (((P.length : Nat) : Int), up (P ++ P.length :: rest))) ⟨P.length, Nat.le_refl _, by simp, fun p hp => by simp at hp⟩
  rintro s ⟨j, hj, rfl, hgt⟩
  have hend : ∀ (hlow : ∀ p ∈ P.take j, kW us p < kW us P.length), Rise (kW us) (P.take j ++ P.length :: P.drop j) ∧ (P.take j ++ P.length :: P.drop j).Perm (P.length :: P) := fun hlow => by
    constructor
    · refine List.pairwise_append.2 ⟨List.Pairwise.sublist (List.take_sublist _ _) hP, List.pairwise_cons.2 ⟨hgt, List.Pairwise.sublist (List.drop_sublist _ _) hP⟩, fun x hx y hy => ?_⟩
      have h1 := hlow x hx
      rcases List.mem_cons.1 hy with rfl | hy
      · exact h1
      · have := hgt y hy; omega
    · have := (List.perm_middle (a := P.length) (l₁ := P.take j) (l₂ := P.drop j))
      rwa [List.take_append_drop] at this
  have hfin : up (P.take j ++ P.length :: (P.drop j ++ rest)) = up ((P.take j ++ P.length :: P.drop j) ++ rest) := by simp
  have hlen : (P.take j).length = j := by rw [List.length_take]; omega
  by_cases h0 : j = 0
  · subst h0
    have d1 : decide (((0:Nat) : Int) > (0:Int)) = false := rfl
    obtain ⟨g1, g2⟩ := hend (by simp)
    exact .inr ⟨_, by simp only [label_New_l14, d1, cond_false, wrap_succ (show P.length ≤ 4294967295 by omega)]; rfl, _, by rw [hfin], g1, g2⟩
  have d1 : decide ((j : Int) > (0:Int)) = true := decide_eq_true (by omega)
  have d3 : IntKind.i64.wrap ((j : Int) - (1:Int)) = ((j - 1 : Nat) : Int) := wrap_sub (a := j) (b := 1) (by omega) (by omega)
  have hlt : j - 1 < P.length := by omega
  have htk : P.take j = P.take (j - 1) ++ [P[j - 1]] := by
    have := List.take_succ_eq_append_getElem hlt
    rwa [show j - 1 + 1 = j by omega] at this
  have hlen1 : (P.take (j - 1)).length = j - 1 := by rw [List.length_take]; omega
  have hdr : P.drop (j - 1) = P[j - 1] :: P.drop j := by
    have := List.drop_eq_getElem_cons hlt
    rwa [show j - 1 + 1 = j by omega] at this
  have hpm : P[j - 1] ∈ P := List.getElem_mem hlt
  have hpl : P[j - 1] < P.length := hm _ hpm
  have hz : P.take j ++ P.length :: (P.drop j ++ rest) = P.take (j - 1) ++ P[j - 1] :: P.length :: (P.drop j ++ rest) := by rw [htk, List.append_assoc]; rfl
  have g1 : geto (up (P.take j ++ P.length :: (P.drop j ++ rest))) (j : Int) = some ((P.length : Nat) : Int) := geto_app hlen
  have g2 : geto (up (P.take j ++ P.length :: (P.drop j ++ rest))) ((j - 1 : Nat) : Int) = some ((P[j - 1] : Nat) : Int) := by rw [hz]; exact geto_app hlen1
  unfold label_New_l14
  dsimp only
  rw [d1, cond_true, g1, Option.bind_some, d3, g2, Option.bind_some, ones_tab hn hL hi (show P[j - 1] < us.length by omega), Option.bind_some, hcmp _ hpm]
  by_cases hk : kW us P.length < kW us P[j - 1]
  · left
    rw [decide_eq_true hk, cond_true]
    have hset : (up (P.take j ++ P.length :: (P.drop j ++ rest))).set j ((P[j - 1] : Nat) : Int) = up ((P.take (j - 1) ++ P[j - 1] :: P.length :: (P.drop j ++ rest)).set j P[j - 1]) := by rw [up_set, hz]
    have hsw := swap_set (P.take (j - 1)) (P.drop j ++ rest) P[j - 1] P.length (j := j) (by omega)
    have hgl : j - 1 < (up ((P.take (j - 1) ++ P[j - 1] :: P.length :: (P.drop j ++ rest)).set j P[j - 1])).length := by simp [up, List.length_set]; omega
    refine ⟨(((j - 1 : Nat) : Int), up (P.take (j - 1) ++ P.length :: (P.drop (j - 1) ++ rest))), ?_, ⟨j - 1, by omega, rfl, fun p hp => ?_⟩, by dsimp only; omega⟩
    · rw [Int.toNat_natCast, Int.toNat_natCast, hset, geto_lt hgl, Option.bind_some, up_set, hsw, hdr]; rfl
    · rw [hdr] at hp
      rcases List.mem_cons.1 hp with rfl | hp
      · exact hk
      · exact hgt p hp
  · right
    rw [decide_eq_false hk, cond_false]
    have hne : kW us P[j - 1] ≠ kW us P.length := fun h => by unfold kW at h; omega
    have hlow : ∀ p ∈ P.take j, kW us p < kW us P.length := fun p hp => by
      rw [htk] at hp
      rcases List.mem_append.1 hp with hp | hp
      · obtain ⟨i, hi', rfl⟩ := List.mem_iff_getElem.1 hp
        rw [List.getElem_take]
        have hij : i < j - 1 := by omega
        have := hP.lt (show i < P.length by omega) hlt hij
        omega
      · rw [List.mem_singleton.1 hp]; omega
    obtain ⟨q1, q2⟩ := hend hlow
    exact ⟨_, by rw [wrap_succ (show P.length ≤ 4294967295 by omega)]; rfl, _, by rw [hfin], q1, q2⟩
theorem sort_eq (hn : us.length ≤ 16) (h1 : 1 ≤ us.length) (L : label_Lattice) (hL : L.down = tab us.length (dnI us us.length)) (hall : L.all = up (List.range us.length)) :
    ∃ Q : List Nat, loopO (label_New_l13 L (0:Int)) ((1:Int), up (List.range us.length)) = some (up Q) ∧ Rise (kW us) Q ∧ Q.Perm (List.range us.length) := by
  have h := loop_inv (body := label_New_l13 L (0:Int)) (fun s => ∃ (i : Nat) (P : List Nat), i ≤ us.length ∧ s = ((i : Int), up (P ++ (List.range us.length).drop i)) ∧ Rise (kW us) P ∧ P.Perm (List.range i)) (fun s => ((us.length : Int) - s.1).toNat) (fun r => ∃ Q : List Nat, r = up Q ∧ Rise (kW us) Q ∧ Q.Perm (List.range us.length)) ?_ (s := ((1:Int), up (List.range us.length))) ⟨1, [0], h1, ?_, List.pairwise_singleton _ _, List.Perm.refl _⟩
  · obtain ⟨r, h2, Q, rfl, h3, h4⟩ := h
    exact ⟨Q, h2, h3, h4⟩
  · rintro s ⟨i, P, hi, rfl, hP, hp⟩
    have hlen : P.length = i := by have := hp.length_eq; simpa using this
    subst hlen
    have hal : (L.all.length : Int) = (us.length : Int) := by rw [hall, up_len, List.length_range]
    by_cases hlt : P.length < us.length
    · left
      have hm : ∀ p ∈ P, p < P.length := fun p hpp => by have := hp.mem_iff.1 hpp; simpa using this
      have hd : (List.range us.length).drop P.length = P.length :: (List.range us.length).drop (P.length + 1) := by
        rw [List.drop_eq_getElem_cons (by simpa using hlt), List.getElem_range]
      obtain ⟨r, h2, Q, rfl, h3, h4⟩ := insert_eq hn (rest := (List.range us.length).drop (P.length + 1)) hP hm hlt L hL
      refine ⟨_, by simp only [label_New_l13, hal, lt_t hlt, cond_true, hd, h2], ⟨P.length + 1, Q, by omega, rfl, h3, ?_⟩, by dsimp only; omega⟩
      rw [List.range_succ]
      exact h4.trans ((hp.cons P.length).trans (List.perm_append_comm (l₁ := [P.length])))
    · have e : P.length = us.length := by omega
      right
      refine ⟨up P, by simp only [label_New_l13, hal, e, lt_f, cond_false]; rw [List.drop_eq_nil_of_le (by simp), List.append_nil]; rfl, P, rfl, hP, by rwa [e] at hp⟩
  · congr 2
    have hpos : 0 < (List.range us.length).length := by rw [List.length_range]; omega
    have : (List.range us.length).drop 0 = 0 :: (List.range us.length).drop 1 := by rw [List.drop_eq_getElem_cons hpos, List.getElem_range]
    simpa using this
/-! ### The document's order -/
def srt (us : List Nat) : List Nat := (List.range (us.length + 1)).flatMap fun k => (List.range us.length).filter fun a => wt us a == k
theorem srt_mem {a : Nat} : a ∈ srt us ↔ a < us.length := by
  have := wt_le us a
  simp only [srt, List.mem_flatMap, List.mem_range, List.mem_filter, beq_iff_eq]
  exact ⟨fun ⟨k, _, h, _⟩ => h, fun h => ⟨wt us a, by omega, h, rfl⟩⟩
theorem srt_rise (hn : us.length ≤ 16) : Rise (kW us) (srt us) := by
  have key : ∀ m, Rise (kW us) ((List.range m).flatMap fun k => (List.range us.length).filter fun a => wt us a == k) := fun m => by
    induction m with
    | zero => exact List.Pairwise.nil
    | succ m ih =>
      rw [List.range_succ, List.flatMap_append]
      refine List.pairwise_append.2 ⟨ih, ?_, fun x hx y hy => ?_⟩
      · rw [List.flatMap_singleton]
        refine List.Pairwise.imp_of_mem (R := fun a b => a < b) (fun {x y} hx hy h => ?_) (List.Pairwise.sublist List.filter_sublist List.pairwise_lt_range)
        have h1 := eq_of_beq (List.mem_filter.1 hx).2
        have h2 := eq_of_beq (List.mem_filter.1 hy).2
        unfold kW; rw [h1, h2]; omega
      · obtain ⟨k, hk, hx⟩ := List.mem_flatMap.1 hx
        rw [List.flatMap_singleton] at hy
        have h1 := eq_of_beq (List.mem_filter.1 hx).2
        have h2 := eq_of_beq (List.mem_filter.1 hy).2
        have h3 := List.mem_range.1 (List.mem_filter.1 hx).1
        have h4 := List.mem_range.1 hk
        unfold kW; rw [h1, h2]; omega
  exact key _
theorem rise_nodup {l : List Nat} (h : Rise (kW us) l) : l.Nodup := List.Pairwise.imp (fun {a b} h => fun e => by subst e; omega) h
theorem srt_len (hn : us.length ≤ 16) : (srt us).length = us.length := by
  have : (srt us).Perm (List.range us.length) := (List.perm_ext_iff_of_nodup (rise_nodup (srt_rise hn)) List.nodup_range).2 fun a => by rw [srt_mem, List.mem_range]
  simpa using this.length_eq
/-! ### The whole lattice -/
def ps (us : List Nat) (a : Nat) : Int := ((srt us).idxOf a : Nat)
def latF (us : List Nat) : label_Lattice := { up := up us, down := tab us.length (dnI us us.length), join := tab us.length fun x => tab us.length (jI us x), meet := tab us.length fun x => tab us.length (mI us x), rank := tab us.length (ps us), all := up (srt us) }
theorem idx_at (hn : us.length ≤ 16) {i : Nat} (hi : i < (srt us).length) : (srt us).idxOf (srt us)[i] = i := List.Nodup.idxOf_getElem (rise_nodup (srt_rise hn)) i hi
theorem fin_eq (hn : us.length ≤ 16) (h1 : 1 ≤ us.length) : label_New_j4 (latT us us.length) = some (some (latF us), 0) := by
  have hL : (latT us us.length).down = tab us.length (dnI us us.length) := rfl
  have hall : (latT us us.length).all = up (List.range us.length) := rfl
  have hal : ((latT us us.length).all.length : Int) = (us.length : Int) := by rw [hall, up_len, List.length_range]
  obtain ⟨Q, h2, h3, h4⟩ := sort_eq hn h1 _ hL hall
  have hQ : Q = srt us := rise_ext h3 (srt_rise hn) fun a => by rw [h4.mem_iff, srt_mem, List.mem_range]
  subst hQ
  have e1 : loopO (label_New_l10 (latT us us.length)) ((0:Int), (20:Int), (latT us us.length).all) = some ((latT us us.length).all, (0:Int)) := by
    have d : decide ((20:Int) ≤ (us.length : Int)) = false := decide_eq_false (by omega)
    rw [loopO_eq]
    simp only [label_New_l10, hal, d, cond_false]; rfl
  have e2 : loopO (label_New_l15 (latT us us.length) (up (srt us))) (20:Int) = some (up (srt us)) := by
    have d : decide ((20:Int) < (us.length : Int)) = false := decide_eq_false (by omega)
    rw [loopO_eq]
    simp only [label_New_l15, hal, d, cond_false]; rfl
  have hsl := srt_len hn
  have e3 : loopO (label_New_l18 (up (srt us)) (latT us us.length)) ((0:Int), (latT us us.length).rank) = some (some (latF us), (0:Int)) := by
    have h := loop_range (body := label_New_l18 (up (srt us)) (latT us us.length)) (fun i => ((i : Int), tab us.length fun a => if (srt us).idxOf a < i then ps us a else 0)) us.length (some (latF us), (0:Int)) (fun i hi => by
      have hi' : i < (srt us).length := by omega
      have hx : (srt us)[i] < us.length := srt_mem.1 (List.getElem_mem hi')
      have hg : geto (up (srt us)) (i : Int) = some (((srt us)[i] : Nat) : Int) := by rw [get_up hi', ub, List.getElem?_eq_getElem hi']; rfl
      simp only [label_New_l18, up_len, hsl, lt_t hi, cond_true, hg, Option.bind_some, get_tab _ hx, Int.toNat_natCast, wrap_succ (show i ≤ 4294967295 by omega)]
      rw [tab_set]
      congr 3
      refine tab_ext fun a ha => ?_
      by_cases e : a = (srt us)[i]
      · subst e
        rw [if_pos rfl, idx_at hn hi', if_pos (by omega), ps, idx_at hn hi']
      · rw [if_neg e]
        have hne : (srt us).idxOf a ≠ i := fun h => e (by
          have hm : (srt us).idxOf a < (srt us).length := List.idxOf_lt_length_iff.2 (srt_mem.2 ha)
          have := List.getElem_idxOf hm
          rw [← this]; congr 1)
        by_cases h : (srt us).idxOf a < i
        · rw [if_pos h, if_pos (by omega)]
        · rw [if_neg h, if_neg (by omega)]) (by
      simp only [label_New_l18, up_len, hsl, lt_f, cond_false, latT, latF]
      have : (tab us.length fun a => if (srt us).idxOf a < us.length then ps us a else 0) = tab us.length (ps us) := tab_ext fun a ha => by
        have hm : (srt us).idxOf a < (srt us).length := List.idxOf_lt_length_iff.2 (srt_mem.2 ha)
        rw [if_pos (by omega)]
      rw [this]; rfl)
    have e : (tab us.length fun a => if (srt us).idxOf a < 0 then ps us a else 0) = (latT us us.length).rank := by
      rw [show (latT us us.length).rank = List.replicate us.length (0:Int) from rfl, ← tab_const]
      exact tab_ext fun a _ => by rw [if_neg (by omega)]
    rw [e] at h
    exact h
  have e4 : label_New_j9 (latT us us.length) ((latT us us.length).all, (0:Int)) = some (up (srt us)) := by
    have w : IntKind.i64.wrap ((0:Int) + (1:Int)) = 1 := by decide
    simp only [label_New_j9, w, hall, h2, Option.bind_some, e2]
  simp only [label_New_j4, e1, Option.bind_some, e4, e3]
end Go.Proofs.Ytbdbeenkamcglaa
