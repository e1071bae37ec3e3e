/- What nobody reads any more is gone; plainly. -/
import Derived.Test.YtbdnbohbmgmonaaMvccTrimsMvO
set_option linter.unusedVariables false
set_option linter.unusedSimpArgs false
set_option maxRecDepth 100000
namespace Go.Proofs.Ytbdnbohbmgmonaa
open Go Go.V
noncomputable def trB (p : Prop) : Bool := @decide p (Classical.propDecidable p)
theorem trB_iff {p : Prop} : trB p = true ↔ p := by unfold trB; exact @decide_eq_true_iff p (Classical.propDecidable p)
theorem trB_f {p : Prop} (h : ¬ p) : trB p = false := by cases e : trB p with | false => rfl | true => exact absurd (trB_iff.1 e) h
def topAt (L : List mvcc_Version) (e : Int) (v : mvcc_Version) : Prop := ∀ w ∈ L, w.Epoch ≤ e → vk w ≤ vk v
noncomputable def keepV (L : List mvcc_Version) (e : Int) (v : mvcc_Version) : Bool := decide (e < v.Epoch) || (!v.Del && trB (topAt L e v))
theorem keep_perm {L K : List mvcc_Version} (h : L.Perm K) (e : Int) (v : mvcc_Version) : keepV L e v = keepV K e v := by
  have : topAt L e v ↔ topAt K e v := ⟨fun a w hw => a w (h.mem_iff.2 hw), fun a w hw => a w (h.mem_iff.1 hw)⟩
  unfold keepV
  rw [propext this]
def trimL (e : Int) (L : List mvcc_Version) : List mvcc_Version :=
  if 0 < lb (upto e) L then (match (L.drop (lb (upto e) L - 1)).head? with | some v => if v.Del then (L.drop (lb (upto e) L - 1)).drop 1 else L.drop (lb (upto e) L - 1) | none => []) else L
theorem trimL_filter {L : List mvcc_Version} (e : Int) (hr : Rise vk L) (hg : ∀ v ∈ L, vG v) : trimL e L = L.filter (keepV L e) := by
  rcases lb_top e hr hg with ⟨h0, ht⟩ | ⟨hk, h0, ht⟩
  · unfold trimL
    rw [h0, if_neg (by omega)]
    refine (List.filter_eq_self.2 fun v hv => ?_).symm
    have := ht v hv
    simp [keepV, this]
  · have hsplit : L = L.take (lb (upto e) L - 1) ++ L[lb (upto e) L - 1] :: L.drop (lb (upto e) L) := by
      have := List.drop_eq_getElem_cons hk
      rw [show lb (upto e) L - 1 + 1 = lb (upto e) L by omega] at this
      rw [← this, List.take_append_drop]
    have h1 : (L.take (lb (upto e) L - 1)).filter (keepV L e) = [] := List.filter_eq_nil_iff.2 fun v hv => by
      obtain ⟨a, ha, rfl⟩ := List.mem_iff_getElem.1 hv
      rw [List.length_take] at ha
      rw [List.getElem_take]
      have haL : a < L.length := by omega
      have hlt := hr.lt haL hk (by omega)
      have hvk := (vk_lt (hg _ (List.getElem_mem haL)) (hg _ (List.getElem_mem hk))).1 hlt
      have hE : L[lb (upto e) L - 1].Epoch ≤ e := ht.2.1
      have h2 : ¬ e < L[a].Epoch := by omega
      have h3 : ¬ topAt L e L[a] := fun h => by have := h _ ht.1 ht.2.1; omega
      simp [keepV, h2, trB_f h3]
    have h2 : (L.drop (lb (upto e) L)).filter (keepV L e) = L.drop (lb (upto e) L) := List.filter_eq_self.2 fun v hv => by
      obtain ⟨a, ha, rfl⟩ := List.mem_iff_getElem.1 hv
      rw [List.length_drop] at ha
      rw [List.getElem_drop]
      have hkL : lb (upto e) L < L.length := by omega
      have hb : upto e L[lb (upto e) L] = false := lb_at hkL
      have hb2 : e < L[lb (upto e) L].Epoch := by simpa [upto] using hb
      have h3 : e < L[lb (upto e) L + a].Epoch := by
        rcases Nat.eq_zero_or_pos a with h | h
        · subst h; exact hb2
        · have := (vk_lt (hg _ (List.getElem_mem hkL)) (hg _ (List.getElem_mem (show lb (upto e) L + a < L.length by omega)))).1 (hr.lt hkL (by omega) (by omega)); omega
      simp [keepV, h3]
    have h3 : keepV L e L[lb (upto e) L - 1] = !L[lb (upto e) L - 1].Del := by
      have hE : ¬ e < L[lb (upto e) L - 1].Epoch := by have : L[lb (upto e) L - 1].Epoch ≤ e := ht.2.1; omega
      have hT : trB (topAt L e L[lb (upto e) L - 1]) = true := trB_iff.2 ht.2.2
      simp [keepV, hE, hT]
    have hd : L.drop (lb (upto e) L - 1) = L[lb (upto e) L - 1] :: L.drop (lb (upto e) L) := by
      have := List.drop_eq_getElem_cons hk
      rwa [show lb (upto e) L - 1 + 1 = lb (upto e) L by omega] at this
    unfold trimL
    rw [if_pos h0]
    conv => rhs; rw [hsplit]
    rw [List.filter_append, ← hsplit, h1, List.nil_append, List.filter_cons, h2, h3, hd]
    simp only [List.head?_cons, List.drop_succ_cons, List.drop_zero]
    cases L[lb (upto e) L - 1].Del <;> rfl
def trimS (e : Int) (l : List mvcc_row) : List mvcc_row := (l.map fun r => { rank := r.rank, l := trimL e r.l }).filter fun r => !r.l.isEmpty
theorem trimS_app (e : Int) (l k : List mvcc_row) : trimS e (l ++ k) = trimS e l ++ trimS e k := by simp only [trimS, List.map_append, List.filter_append]
theorem subs_drop {α : Type} {L : List α} (i : Nat) : subs L (i : Int) (((L.length : Nat) : Int)) = L.drop i := by
  unfold subs
  rw [Int.toNat_natCast, Int.toNat_natCast, List.take_length]
theorem trim_step {l : List mvcc_row} {e : Int} {i : Nat} (hi : i < l.length) (hn : l.length ≤ 1000000) (hr : Rise vk l[i].l) (hg : ∀ v ∈ l[i].l, vG v) (hl : l[i].l.length ≤ 1000000) (out : List mvcc_row) (ho : out.length ≤ i) :
    mvcc_Store_Trim_l1 { rows := l } e ((i : Int), out) = some (.inl (((i + 1 : Nat) : Int), out ++ trimS e [l[i]])) := by
  have h := esearch (F := mvcc_Store_Trim_l2 l[i] e) e hr hg hl fun s => rfl
  have hle := lb_le (upto e) l[i].l
  simp only [mvcc_Store_Trim_l1, lt_t hi, cond_true, geto_lt hi, Option.bind_some, h]
  have e1 : (if (0:Int) > IntKind.i64.wrap (((lb (upto e) l[i].l : Nat) : Int) - (1:Int)) then (0:Int) else IntKind.i64.wrap (((lb (upto e) l[i].l : Nat) : Int) - (1:Int))) = ((lb (upto e) l[i].l - 1 : Nat) : Int) := by
    rw [wrap_i64_eq]
    split <;> omega
  rw [e1, gd_true (fits_nat (by omega) (Nat.le_refl _)), subs_drop]
  simp only [slices_Clone_mvcc_Version_mvcc_Version]
  rw [gd_true (room_le (by simp only [List.length_nil, List.length_drop]; omega)), Option.bind_some]
  have e2 : (bif (decide (((lb (upto e) l[i].l : Nat) : Int) > (0:Int))) then ((geto (l[i].l.drop (lb (upto e) l[i].l - 1)) (0:Int)).bind fun x1231 => (bif x1231.Del then (gd (fits (l[i].l.drop (lb (upto e) l[i].l - 1)) (1:Int) (((l[i].l.drop (lb (upto e) l[i].l - 1)).length : Nat) : Int)) (some (subs (l[i].l.drop (lb (upto e) l[i].l - 1)) (1:Int) (((l[i].l.drop (lb (upto e) l[i].l - 1)).length : Nat) : Int)))) else (some (l[i].l.drop (lb (upto e) l[i].l - 1))))) else (some (l[i].l.drop (lb (upto e) l[i].l - 1)))) = some (trimL e l[i].l) := by
    unfold trimL
    by_cases h0 : 0 < lb (upto e) l[i].l
    · have d0 : decide (((lb (upto e) l[i].l : Nat) : Int) > (0:Int)) = true := by simpa using h0
      have hk : lb (upto e) l[i].l - 1 < l[i].l.length := by omega
      have hl0 : 0 < (l[i].l.drop (lb (upto e) l[i].l - 1)).length := by rw [List.length_drop]; omega
      rw [d0, cond_true, if_pos h0, show (0:Int) = ((0:Nat):Int) from rfl, geto_lt hl0, Option.bind_some]
      have hh : (l[i].l.drop (lb (upto e) l[i].l - 1)).head? = some (l[i].l.drop (lb (upto e) l[i].l - 1))[0] := by rw [List.head?_eq_getElem?, List.getElem?_eq_getElem hl0]
      rw [hh]
      dsimp only
      cases (l[i].l.drop (lb (upto e) l[i].l - 1))[0].Del with
      | true =>
        rw [cond_true, gd_true (show fits _ (1:Int) _ = true from fits_nat (i := 1) (by omega) (Nat.le_refl _))]
        have := subs_drop (L := l[i].l.drop (lb (upto e) l[i].l - 1)) 1
        rw [show (((1:Nat)):Int) = (1:Int) from rfl] at this
        rw [this]; rfl
      | false => rfl
    · have d0 : decide (((lb (upto e) l[i].l : Nat) : Int) > (0:Int)) = false := by simp; omega
      rw [d0, cond_false, if_neg h0, show lb (upto e) l[i].l - 1 = 0 by omega, List.drop_zero]
  rw [e2, Option.bind_some]
  simp only [mvcc_Store_Trim_j3, wrap_succ (show i ≤ 4294967295 by omega)]
  cases ht : trimL e l[i].l with
  | nil => simp [trimS, ht]
  | cons v t =>
    have d1 : decide ((((v :: t).length : Nat) : Int) > (0:Int)) = true := by simp
    rw [d1, cond_true, gd_true (room_one (by omega))]
    simp [trimS, ht]
theorem trim_eq {n : Nat} {l : List mvcc_row} {m : List ref11_Version} (h : Inv n l m) (hn : n ≤ 10000) (e : Int) : mvcc_Store_Trim (some { rows := l }) e = some (some { rows := trimS e l }) := by
  have g := h.good
  have hl := g.len
  have hs : ∀ i, (trimS e (l.take i)).length ≤ i := fun i => by
    have := List.length_filter_le (fun r : mvcc_row => !r.l.isEmpty) ((l.take i).map fun r => ({ rank := r.rank, l := trimL e r.l } : mvcc_row))
    rw [List.length_map, List.length_take] at this
    unfold trimS; omega
  have hL := loop_range (body := mvcc_Store_Trim_l1 { rows := l } e) (fun i => ((i : Int), trimS e (l.take i))) l.length (trimS e l) (fun i hi => by
    have hm := List.getElem_mem hi
    rw [trim_step hi (by omega) (g.vr _ hm) (g.vg _ hm) (by have := g.vl _ hm; omega) _ (hs i), ← trimS_app, ← List.take_succ_eq_append_getElem hi]) (by simp [mvcc_Store_Trim_l1, inrO])
  have h0 : trimS e (l.take 0) = [] := by simp [trimS]
  rw [h0] at hL
  simp only [mvcc_Store_Trim]
  rw [show (((0:Nat)):Int) = (0:Int) from rfl] at hL
  rw [hL, Option.bind_some]
  rfl
noncomputable def keepP (m : List ref11_Version) (e : Int) (p : Int × mvcc_Version) : Bool := keepV (Lm p.1 m) e p.2
theorem flat_trim (K : Int × mvcc_Version → Bool) (e : Int) : ∀ l : List mvcc_row, (∀ x ∈ l, trimL e x.l = x.l.filter (fun v => K (x.rank, v))) → flatV (trimS e l) = (flatV l).filter K
  | [], _ => rfl
  | x :: l, h => by
    have h1 := flat_trim K e l fun y hy => h y (by simp [hy])
    have h2 := h x (by simp)
    have e1 : flatV (trimS e (x :: l)) = flatV (trimS e [x]) ++ flatV (trimS e l) := by
      rw [show x :: l = [x] ++ l from rfl, trimS_app]; unfold flatV; rw [List.flatMap_append]
    have e2 : flatV (x :: l) = x.l.map (fun v => (x.rank, v)) ++ flatV l := rfl
    have e3 : flatV (trimS e [x]) = (trimL e x.l).map (fun v => (x.rank, v)) := by
      cases ht : trimL e x.l with
      | nil => simp [trimS, ht, flatV]
      | cons v t => simp [trimS, ht, flatV]
    rw [e1, e2, List.filter_append, h1, e3, h2, List.filter_map]
    rfl
theorem rowV_at {l : List mvcc_row} (hr : Rise rk l) {x : mvcc_row} (hx : x ∈ l) : rowV l x.rank = x.l := by
  unfold rowV
  rw [show rlook rk x.rank l = some x from (look_some hr).2 ⟨hx, rfl⟩]
theorem nd_idx {m : List ref11_Version} (nd : (m.map fun x => ky (tagV x)).Nodup) {a i : Nat} (ha : a < m.length) (hi : i < m.length) (e : ky (tagV m[a]) = ky (tagV m[i])) : a = i := by
  have h := List.pairwise_iff_getElem.1 nd
  rcases Nat.lt_trichotomy a i with h1 | h1 | h1
  · have := h a i (by simpa using ha) (by simpa using hi) h1
    simp [e] at this
  · exact h1
  · have := h i a (by simpa using hi) (by simpa using ha) h1
    simp [e] at this
theorem reftrim_eq {n : Nat} {l : List mvcc_row} {m : List ref11_Version} (h : Inv n l m) (hn : n ≤ 10000) (e : Int) : ref11_Trim m e = some (m.filter fun y => keepP m e (tagV y)) := by
  have hm := h.mlen
  have hL := loop_fmap (body := ref11_Trim_l0 m e) m (fun y => keepP m e (tagV y)) id id (fun i hi out ho => by
    have hmi := List.getElem_mem hi
    obtain ⟨k, hk, hT⟩ := last_eq h.xg (by omega) (h.xg _ hmi).1 e
    simp only [ref11_Trim_l0, lt_t hi, cond_true, geto_lt hi, Option.bind_some, hk, wrap_succ (show i ≤ 4294967295 by omega), gd_true (room_one (xs := out) (x := m[i]) (by omega))]
    by_cases hE : m[i].Epoch > e
    · have hq : keepP m e (tagV m[i]) = true := by
        have : e < (tagV m[i]).2.Epoch := hE
        simp [keepP, keepV, this]
      simp [hE, hq]
    · have hE' : ¬ e < (tagV m[i]).2.Epoch := hE
      have hmat : matV (fRank m[i].At) e m[i] := ⟨rfl, by omega⟩
      have hq : keepP m e (tagV m[i]) = ((k == (i : Int)) && !m[i].Del) := by
        unfold keepP keepV
        rw [show decide (e < (tagV m[i]).2.Epoch) = false by simpa using hE', Bool.false_or, Bool.and_comm]
        congr 1
        rw [Bool.eq_iff_iff, trB_iff, beq_iff_eq]
        rcases hT with ⟨rfl, h4⟩ | ⟨a, ha, rfl, h4, h5⟩
        · exact absurd hmat (h4 i hi hi)
        · constructor
          · intro htop
            have h6 : vk (ver m[a]) ≤ vk (ver m[i]) := htop _ (Lm_mem.2 ⟨_, List.getElem_mem ha, h4.1, rfl⟩) h4.2
            have h7 := h5 i hi hi hmat
            have : a = i := nd_idx h.nd ha hi (by simp only [ky, tagV, Prod.mk.injEq]; exact ⟨h4.1, by omega⟩)
            rw [this]
          · intro hai
            have hai : a = i := by omega
            subst hai
            intro w hw hwe
            obtain ⟨y, hy, h6, rfl⟩ := Lm_mem.1 hw
            obtain ⟨j, hj, rfl⟩ := List.mem_iff_getElem.1 hy
            exact h5 j hj hj ⟨h6, hwe⟩
      rw [hq]
      by_cases h8 : k = (i : Int)
      · have b8 : (k == (i : Int)) = true := by simpa using h8
        simp only [decide_eq_false hE, cond_false, b8, cond_true, Bool.true_and]
        cases m[i].Del <;> rfl
      · have b8 : (k == (i : Int)) = false := by simpa using h8
        simp only [decide_eq_false hE, cond_false, b8, Bool.false_and]) (fun out ho => by simp [ref11_Trim_l0, inrO])
  simpa [ref11_Trim] using hL
theorem inv_trim {n : Nat} {l : List mvcc_row} {m : List ref11_Version} (h : Inv n l m) (e : Int) : Inv n (trimS e l) (m.filter fun y => keepP m e (tagV y)) := by
  have g := h.good
  have hrow : ∀ x ∈ l, trimL e x.l = x.l.filter (fun v => keepP m e (x.rank, v)) := fun x hx => by
    rw [trimL_filter e (g.vr x hx) (g.vg x hx)]
    refine List.filter_congr fun v hv => ?_
    have := row_perm h x.rank
    rw [rowV_at h.rise hx] at this
    exact keep_perm this e v
  have hmem : ∀ y ∈ trimS e l, ∃ x ∈ l, y = { rank := x.rank, l := trimL e x.l } ∧ trimL e x.l ≠ [] := fun y hy => by
    obtain ⟨h1, h2⟩ := List.mem_filter.1 hy
    obtain ⟨x, hx, rfl⟩ := List.mem_map.1 h1
    exact ⟨x, hx, rfl, fun e => by simp [e] at h2⟩
  refine ⟨?_, fun y hy => ?_, fun y hy => ?_, ?_, fun y hy => h.xg y (List.mem_filter.1 hy).1, List.Nodup.sublist (List.Sublist.map _ List.filter_sublist) h.nd, Nat.le_trans (List.length_filter_le _ _) h.mlen⟩
  · refine List.Pairwise.sublist List.filter_sublist ?_
    exact List.pairwise_map.2 h.rise
  · obtain ⟨x, _, rfl, hne⟩ := hmem y hy; exact hne
  · obtain ⟨x, hx, rfl, _⟩ := hmem y hy
    show Rise vk (trimL e x.l)
    rw [hrow x hx]
    exact List.Pairwise.sublist List.filter_sublist (g.vr x hx)
  · rw [flat_trim (keepP m e) e l hrow]
    have := h.pm.filter (keepP m e)
    rw [List.filter_map] at this
    exact this
theorem trim_got {n : Nat} {l : List mvcc_row} {m : List ref11_Version} (h : Inv n l m) {e k : Int} (hk : e ≤ k) {r : Int} {o : Option mvcc_Version} (ho : isTop (Lm r m) k o) : ∃ p, isTop (Lm r (m.filter fun y => keepP m e (tagV y))) k p ∧ gotOf p = gotOf o := by
  have hsub : ∀ w, w ∈ Lm r (m.filter fun y => keepP m e (tagV y)) ↔ w ∈ Lm r m ∧ keepV (Lm r m) e w = true := fun w => by
    rw [Lm_mem, Lm_mem]
    constructor
    · rintro ⟨y, hy, h1, rfl⟩
      obtain ⟨h2, h3⟩ := List.mem_filter.1 hy
      refine ⟨⟨y, h2, h1, rfl⟩, ?_⟩
      have : keepP m e (tagV y) = keepV (Lm (fRank y.At) m) e (ver y) := rfl
      rw [this, h1] at h3; exact h3
    · rintro ⟨⟨y, hy, h1, rfl⟩, h3⟩
      refine ⟨y, List.mem_filter.2 ⟨hy, ?_⟩, h1, rfl⟩
      have : keepP m e (tagV y) = keepV (Lm (fRank y.At) m) e (ver y) := rfl
      rw [this, h1]; exact h3
  have hg : ∀ w ∈ Lm r m, vG w := fun w hw => by obtain ⟨y, hy, _, rfl⟩ := Lm_mem.1 hw; exact (h.xg y hy).2.1
  cases o with
  | none => exact ⟨none, fun v hv => ho v ((hsub v).1 hv).1, rfl⟩
  | some v =>
    obtain ⟨h1, h2, h3⟩ := ho
    cases hK : keepV (Lm r m) e v with
    | true => exact ⟨some v, ⟨(hsub v).2 ⟨h1, hK⟩, h2, fun w hw => h3 w ((hsub w).1 hw).1⟩, rfl⟩
    | false =>
      have hv : ¬ e < v.Epoch := fun hv => by simp [keepV, hv] at hK
      have htop : topAt (Lm r m) e v := fun w hw hwe => h3 w hw (by omega)
      have hd : v.Del = true := by
        cases hd : v.Del with
        | true => rfl
        | false => simp [keepV, hd, trB_iff.2 htop] at hK
      refine ⟨none, fun w hw => ?_, by show ({ Has := false, Val := [] } : api_Got) = (bif v.Del then { Has := false, Val := [] } else { Has := true, Val := v.Val }); rw [hd]; rfl⟩
      obtain ⟨hw1, hw2⟩ := (hsub w).1 hw
      rcases Int.lt_or_le k w.Epoch with hc | hc
      · exact hc
      · exfalso
        have h5 := h3 w hw1 hc
        have h6 : ¬ vk v < vk w := by omega
        have h7 : w.Epoch ≤ v.Epoch := by
          rcases Int.lt_or_le v.Epoch w.Epoch with hq | hq
          · exact absurd ((vk_lt (hg v h1) (hg w hw1)).2 (.inl hq)) h6
          · exact hq
        have h8 : ¬ e < w.Epoch := by omega
        have h9 : w.Del = false ∧ topAt (Lm r m) e w := by
          unfold keepV at hw2
          rw [show decide (e < w.Epoch) = false by simpa using h8, Bool.false_or, Bool.and_eq_true, Bool.not_eq_true', trB_iff] at hw2
          exact hw2
        have h10 := h9.2 v h1 (by omega)
        have : v = w := rise_inj (rowV_rise h.rise h.vr r) ((row_perm h r).mem_iff.2 h1) ((row_perm h r).mem_iff.2 hw1) (by omega)
        subst this
        rw [hd] at h9; cases h9.1
end Go.Proofs.Ytbdnbohbmgmonaa
