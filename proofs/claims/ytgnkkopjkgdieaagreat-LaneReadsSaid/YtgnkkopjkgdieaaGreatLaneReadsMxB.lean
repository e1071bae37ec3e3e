/- The store of versions, and the document's list of them: what is put, and what is got; plainly. -/
import Derived.Test.YtgnkkopjkgdieaaGreatLaneReadsMxA
import Derived.Test.YtgnkkopjkgdieaaGreatLaneReadsFltB
set_option linter.unusedVariables false
set_option linter.unusedSimpArgs false
set_option maxRecDepth 100000
namespace Go.Proofs.YtgnkkopjkgdieaaGreat
open Go Go.V
def ver (x : ref11_Version) : mvcc_Version := { Epoch := x.Epoch, Index := x.Index, Del := x.Del, Val := x.Val }
def tagV (x : ref11_Version) : Int × mvcc_Version := (fRank x.At, ver x)
def ky (p : Int × mvcc_Version) : Int × Int := (p.1, vk p.2)
def flatV (l : List mvcc_row) : List (Int × mvcc_Version) := l.flatMap fun r => r.l.map fun v => (r.rank, v)
def xG (x : ref11_Version) : Prop := isF x.At ∧ vG (ver x) ∧ x.Val.length ≤ 256 ∧ U8s x.Val
def clx (x : ref11_Version) : ref11_Version := { x with Val := if x.Del then [] else x.Val }
def notK (k : Int × Int) (p : Int × mvcc_Version) : Bool := !(decide (ky p = k))
structure Inv (n : Nat) (l : List mvcc_row) (m : List ref11_Version) : Prop where
  rise : Rise rk l
  ne : ∀ x ∈ l, x.l ≠ []
  vr : ∀ x ∈ l, Rise vk x.l
  pm : (flatV l).Perm (m.map tagV)
  xg : ∀ x ∈ m, xG x
  cl : ∀ x ∈ m, x.Del = true → x.Val = []
  nd : (m.map fun x => ky (tagV x)).Nodup
  mlen : m.length ≤ n
theorem flat_mem {l : List mvcc_row} {p : Int × mvcc_Version} : p ∈ flatV l ↔ ∃ x ∈ l, x.rank = p.1 ∧ p.2 ∈ x.l := by
  unfold flatV
  rw [List.mem_flatMap]
  constructor
  · rintro ⟨x, hx, hp⟩
    obtain ⟨v, hv, rfl⟩ := List.mem_map.1 hp
    exact ⟨x, hx, rfl, hv⟩
  · rintro ⟨x, hx, h1, h2⟩
    exact ⟨x, hx, List.mem_map.2 ⟨p.2, h2, by rw [h1]⟩⟩
theorem m_flat_len : ∀ {l : List mvcc_row}, (∀ x ∈ l, x.l ≠ []) → l.length ≤ (flatV l).length
  | [], _ => Nat.zero_le _
  | x :: l, h => by
    have h1 := m_flat_len (l := l) fun y hy => h y (by simp [hy])
    have h2 : 0 < x.l.length := List.length_pos_iff.2 (h x (by simp))
    show _ ≤ (((x.l.map fun v => (x.rank, v)) ++ flatV l).length)
    rw [List.length_append, List.length_map, List.length_cons]
    omega
theorem flat_vlen : ∀ {l : List mvcc_row}, ∀ x ∈ l, x.l.length ≤ (flatV l).length
  | [], x, h => by cases h
  | y :: l, x, h => by
    show _ ≤ (((y.l.map fun v => (y.rank, v)) ++ flatV l).length)
    rw [List.length_append, List.length_map]
    rcases List.mem_cons.1 h with rfl | h
    · omega
    · have := flat_vlen (l := l) x h; omega
theorem Inv.size {n : Nat} {l : List mvcc_row} {m : List ref11_Version} (h : Inv n l m) : (flatV l).length = m.length := by rw [h.pm.length_eq, List.length_map]
theorem Inv.good {n : Nat} {l : List mvcc_row} {m : List ref11_Version} (h : Inv n l m) : Good n l where
  rise := h.rise
  len := by have := m_flat_len h.ne; have := h.size; have := h.mlen; omega
  vr := h.vr
  vg := fun x hx v hv => by
    have h1 : (x.rank, v) ∈ m.map tagV := h.pm.mem_iff.1 (flat_mem.2 ⟨x, hx, rfl, hv⟩)
    obtain ⟨y, hy, e⟩ := List.mem_map.1 h1
    have e2 : ver y = v := congrArg Prod.snd e
    rw [← e2]; exact (h.xg y hy).2.1
  vl := fun x hx => by have := flat_vlen x hx; have := h.size; have := h.mlen; omega
theorem flat_perm {l k : List mvcc_row} (h : l.Perm k) : (flatV l).Perm (flatV k) := List.Perm.flatMap_right _ h
theorem split_row {l : List mvcc_row} (hr : Rise rk l) (r : Int) : l.Perm ((rlook rk r l).toList ++ l.filter (fun x => rk x != r)) := by
  rw [filter_rest hr]
  unfold delL
  cases hh : hit rk r l with
  | false =>
    have e : pr rk r l = pl rk r l := by simp [pr, hh]
    have e2 : rlook rk r l = none := by simp [rlook, hh]
    rw [e, e2, List.take_append_drop]; exact List.Perm.refl _
  | true =>
    obtain ⟨hk, h3, h4⟩ := look_lt hh
    have e : pr rk r l = pl rk r l + 1 := by simp [pr, hh]
    rw [e, h4]
    have h5 : l = l.take (pl rk r l) ++ l[pl rk r l] :: l.drop (pl rk r l + 1) := by rw [← List.drop_eq_getElem_cons hk, List.take_append_drop]
    have h6 : (l.take (pl rk r l) ++ l[pl rk r l] :: l.drop (pl rk r l + 1)).Perm (l[pl rk r l] :: (l.take (pl rk r l) ++ l.drop (pl rk r l + 1))) := List.perm_middle
    rw [← h5] at h6
    exact h6
theorem flat_split {l : List mvcc_row} (hr : Rise rk l) (r : Int) : (flatV l).Perm ((rowV l r).map (fun v => (r, v)) ++ flatV (l.filter (fun x => rk x != r))) := by
  have h1 := flat_perm (split_row hr r)
  have h2 : flatV ((rlook rk r l).toList ++ l.filter (fun x => rk x != r)) = (rowV l r).map (fun v => (r, v)) ++ flatV (l.filter (fun x => rk x != r)) := by
    unfold flatV
    rw [List.flatMap_append]
    congr 1
    unfold rowV
    cases e : rlook rk r l with
    | none => rfl
    | some x =>
      have e2 : x.rank = r := ((look_some hr).1 e).2
      simp [e2]
  rwa [h2] at h1
theorem flat_off {l : List mvcc_row} {r : Int} {p : Int × mvcc_Version} (h : p ∈ flatV (l.filter (fun x => rk x != r))) : p.1 ≠ r := by
  obtain ⟨x, hx, h1, _⟩ := flat_mem.1 h
  have := (List.mem_filter.1 hx).2
  rw [← h1]
  simpa [rk] using this
theorem rowV_rise {l : List mvcc_row} (hr : Rise rk l) (hv : ∀ x ∈ l, Rise vk x.l) (r : Int) : Rise vk (rowV l r) := by
  unfold rowV
  cases e : rlook rk r l with
  | none => exact rise_nil
  | some x => exact hv x ((look_some hr).1 e).1
theorem flat_put {l : List mvcc_row} (hr : Rise rk l) (hv : ∀ x ∈ l, Rise vk x.l) (r : Int) (v : mvcc_Version) : (flatV (putS l r v)).Perm ((r, v) :: (flatV l).filter (notK (r, vk v))) := by
  have h1 := flat_perm (putL_perm hr { rank := r, l := putL vk (rowV l r) v })
  have h2 : flatV ({ rank := r, l := putL vk (rowV l r) v } :: l.filter (fun y => rk y != rk { rank := r, l := putL vk (rowV l r) v })) = (putL vk (rowV l r) v).map (fun w => (r, w)) ++ flatV (l.filter (fun x => rk x != r)) := rfl
  rw [h2] at h1
  have h3 := (putL_perm (rowV_rise hr hv r) v).map (fun w => (r, w))
  have h4 := (flat_split hr r).filter (notK (r, vk v))
  rw [List.filter_append] at h4
  have h5 : (flatV (l.filter (fun x => rk x != r))).filter (notK (r, vk v)) = flatV (l.filter (fun x => rk x != r)) := List.filter_eq_self.2 fun p hp => by
    have := flat_off hp
    simp [notK, ky, this]
  have h6 : ((rowV l r).map (fun w => (r, w))).filter (notK (r, vk v)) = ((rowV l r).filter (fun y => vk y != vk v)).map (fun w => (r, w)) := by
    rw [List.filter_map]
    congr 1
    refine List.filter_congr fun w _ => ?_
    simp [notK, ky, bne]
    rfl
  rw [h5, h6] at h4
  refine h1.trans ?_
  refine (h3.append_right _).trans ?_
  rw [List.map_cons, List.cons_append]
  exact (h4.symm).cons _
theorem refput_eq {m : List ref11_Version} {x : ref11_Version} (hm : ∀ y ∈ m, isF y.At) (hx : isF x.At) (hn : m.length ≤ 1000000) (gm : ∀ y ∈ m, vG (ver y)) (gx : vG (ver x)) :
    ref11_Put m x = some (m.filter (fun y => notK (ky (tagV x)) (tagV y)) ++ [clx x]) := by
  have h := loop_fmap (body := ref11_Put_l1 m x) m (fun y => notK (ky (tagV x)) (tagV y)) id id (fun i hi out ho => by
    have hmi := List.getElem_mem hi
    simp only [ref11_Put_l1, lt_t hi, cond_true, geto_lt hi, Option.bind_some, same_eq (hm _ hmi) hx, wrap_succ (show i ≤ 4294967295 by omega), gd_true (room_one (xs := out) (x := m[i]) (by omega))]
    have hk : notK (ky (tagV x)) (tagV m[i]) = !(decide (fRank m[i].At = fRank x.At) && (decide (m[i].Epoch = x.Epoch) && decide (m[i].Index = x.Index))) := by
      unfold notK
      congr 1
      rw [Bool.eq_iff_iff]
      simp only [decide_eq_true_eq, Bool.and_eq_true, ky, tagV, Prod.mk.injEq, vk_eq (gm _ hmi) gx]
      exact Iff.rfl
    rw [hk]
    by_cases h1 : fRank m[i].At = fRank x.At
    · by_cases h2 : m[i].Epoch = x.Epoch
      · by_cases h3 : m[i].Index = x.Index
        · simp [h1, h2, h3]
        · have b3 : (m[i].Index != x.Index) = true := by simpa using h3
          simp [h1, h2, h3, b3]
      · have b2 : (m[i].Epoch != x.Epoch) = true := by simpa using h2
        simp [h1, h2, b2]
    · simp [h1]) (fun out ho => by simp [ref11_Put_l1, inrO])
  simp only [ref11_Put, h, Option.bind_some, ref11_Put_j0]
  have e1 : (bif x.Del then (some ([] : List Int)) else some x.Val) = some (clx x).Val := by unfold clx; cases x.Del <;> rfl
  rw [e1, Option.bind_some]
  simp only [ref11_Put_j2]
  have hl := List.length_filter_le (fun y => notK (ky (tagV x)) (tagV y)) m
  rw [gd_true (room_one (by simp only [id, List.length_map]; omega))]
  simp [clx]
theorem clx_tag (x : ref11_Version) : tagV (clx x) = (fRank x.At, clr (ver x)) := rfl
theorem clx_good {x : ref11_Version} (h : xG x) : xG (clx x) := by
  obtain ⟨h1, h2, h3, h4⟩ := h
  refine ⟨h1, h2, ?_, ?_⟩
  · unfold clx; split
    · simp
    · exact h3
  · unfold clx; split
    · intro y hy; cases hy
    · exact h4
theorem inv_put {n : Nat} {l : List mvcc_row} {m : List ref11_Version} (h : Inv n l m) (hn : n ≤ 10000) {x : ref11_Version} (gx : xG x) :
    mvcc_Store_Put (some { rows := l }) x.At (ver x) = some (some { rows := putS l (fRank x.At) (clr (ver x)) }) ∧
    ∃ m', ref11_Put m x = some m' ∧ Inv (n + 1) (putS l (fRank x.At) (clr (ver x))) m' := by
  refine ⟨m_put_eq h.good (by omega) gx.1 gx.2.1 (by have := gx.2.2.1; show x.Val.length ≤ _; omega), _, refput_eq (fun y hy => (h.xg y hy).1) gx.1 (by have := h.mlen; omega) (fun y hy => (h.xg y hy).2.1) gx.2.1, ?_⟩
  have hvr := rowV_rise h.rise h.vr (fRank x.At)
  refine ⟨putL_rise h.rise _, fun y hy => ?_, fun y hy => ?_, ?_, fun y hy => ?_, fun y hy => ?_, ?_, ?_⟩
  · rcases (putL_mem h.rise _ y).1 hy with rfl | ⟨h1, _⟩
    · intro e
      have := (putL_mem hvr (clr (ver x)) (clr (ver x))).2 (.inl rfl)
      have e' : putL vk (rowV l (fRank x.At)) (clr (ver x)) = [] := e
      rw [e'] at this; cases this
    · exact h.ne y h1
  · rcases (putL_mem h.rise _ y).1 hy with rfl | ⟨h1, _⟩
    · exact putL_rise hvr _
    · exact h.vr y h1
  · refine (flat_put h.rise h.vr _ _).trans ?_
    rw [List.map_append, List.map_cons, List.map_nil, clx_tag]
    have h1 := (h.pm.filter (notK (fRank x.At, vk (clr (ver x)))))
    rw [List.filter_map] at h1
    refine List.Perm.trans ?_ List.perm_append_comm
    exact h1.cons _
  · rcases List.mem_append.1 hy with hy | hy
    · exact h.xg y (List.mem_filter.1 hy).1
    · rw [List.mem_singleton.1 hy]; exact clx_good gx
  · rcases List.mem_append.1 hy with hy | hy
    · exact h.cl y (List.mem_filter.1 hy).1
    · rw [List.mem_singleton.1 hy]; intro hd; have hd : x.Del = true := hd; show (if x.Del then [] else x.Val) = []; rw [if_pos hd]
  · rw [List.map_append, List.map_cons, List.map_nil]
    refine List.nodup_append.2 ⟨List.Nodup.sublist (List.Sublist.map _ List.filter_sublist) h.nd, by simp, fun a ha b hb => ?_⟩
    obtain ⟨y, hy, rfl⟩ := List.mem_map.1 ha
    rw [List.mem_singleton.1 hb]
    have := (List.mem_filter.1 hy).2
    exact fun e => by rw [show ky (tagV (clx x)) = ky (tagV x) from rfl] at e; simp [notK, e] at this
  · have := List.length_filter_le (fun y => notK (ky (tagV x)) (tagV y)) m
    have := h.mlen
    rw [List.length_append, List.length_singleton]; omega
/-! ### What is told -/
def Lm (r : Int) (m : List ref11_Version) : List mvcc_Version := (m.filter (fun y => decide (fRank y.At = r))).map ver
theorem Lm_mem {r : Int} {m : List ref11_Version} {v : mvcc_Version} : v ∈ Lm r m ↔ ∃ y ∈ m, fRank y.At = r ∧ ver y = v := by
  simp only [Lm, List.mem_map, List.mem_filter, decide_eq_true_eq, and_assoc]
theorem row_perm {n : Nat} {l : List mvcc_row} {m : List ref11_Version} (h : Inv n l m) (r : Int) : (rowV l r).Perm (Lm r m) := by
  have h1 := (flat_split h.rise r).filter (fun p => decide (p.1 = r))
  rw [List.filter_append] at h1
  have e1 : ((rowV l r).map (fun v => (r, v))).filter (fun p => decide (p.1 = r)) = (rowV l r).map (fun v => (r, v)) := List.filter_eq_self.2 fun p hp => by
    obtain ⟨v, _, rfl⟩ := List.mem_map.1 hp; simp
  have e2 : (flatV (l.filter (fun x => rk x != r))).filter (fun p => decide (p.1 = r)) = [] := List.filter_eq_nil_iff.2 fun p hp => by
    have := flat_off hp; simpa using this
  rw [e1, e2, List.append_nil] at h1
  have h2 := (h1.symm.trans (h.pm.filter (fun p => decide (p.1 = r)))).map Prod.snd
  rw [List.map_map, List.filter_map, List.map_map] at h2
  rw [show (Prod.snd ∘ fun v : mvcc_Version => (r, v)) = id from rfl, List.map_id] at h2
  exact h2
theorem rise_inj {α : Type} {k : α → Int} {l : List α} (h : Rise k l) {a b : α} (ha : a ∈ l) (hb : b ∈ l) (e : k a = k b) : a = b := by
  obtain ⟨i, hi, rfl⟩ := List.mem_iff_getElem.1 ha
  obtain ⟨j, hj, rfl⟩ := List.mem_iff_getElem.1 hb
  rcases Nat.lt_trichotomy i j with h1 | h1 | h1
  · have := h.lt hi hj h1; omega
  · subst h1; rfl
  · have := h.lt hj hi h1; omega
def isTop (L : List mvcc_Version) (e : Int) : Option mvcc_Version → Prop
  | none => ∀ v ∈ L, e < v.Epoch
  | some v => v ∈ L ∧ v.Epoch ≤ e ∧ ∀ w ∈ L, w.Epoch ≤ e → vk w ≤ vk v
def gotOf : Option mvcc_Version → api_Got
  | none => { Has := false, Val := [] }
  | some v => bif v.Del then { Has := false, Val := [] } else { Has := true, Val := v.Val }
theorem top_one {L K : List mvcc_Version} {e : Int} {o p : Option mvcc_Version} (hL : Rise vk L) (hp : L.Perm K) (h1 : isTop L e o) (h2 : isTop K e p) : o = p := by
  cases o with
  | none =>
    cases p with
    | none => rfl
    | some v => have := h1 v (hp.mem_iff.2 h2.1); have := h2.2.1; omega
  | some v =>
    cases p with
    | none => have := h2 v (hp.mem_iff.1 h1.1); have := h1.2.1; omega
    | some w =>
      have a := h1.2.2 w (hp.mem_iff.2 h2.1) h2.2.1
      have b := h2.2.2 v (hp.mem_iff.1 h1.1) h1.2.1
      rw [rise_inj hL h1.1 (hp.mem_iff.2 h2.1) (by omega)]
def upto (e : Int) (v : mvcc_Version) : Bool := decide (v.Epoch ≤ e)
theorem upto_ahd {L : List mvcc_Version} (hr : Rise vk L) (hg : ∀ v ∈ L, vG v) (e : Int) : Ahd (upto e) L := fun a b ha hb hab hp => by
  have h1 := (vk_lt (hg _ (List.getElem_mem ha)) (hg _ (List.getElem_mem hb))).1 (hr.lt ha hb hab)
  simp only [upto, decide_eq_true_eq] at hp ⊢
  omega
theorem esearch {F : Int × Int → Option ((Int × Int) ⊕ Int)} {L : List mvcc_Version} (e : Int) (hr : Rise vk L) (hg : ∀ v ∈ L, vG v) (hn : L.length ≤ 1000000)
    (hF : ∀ s, F s = (match s with | (i, j) => (bif (decide (i < j)) then (((geto L (IntKind.i64.wrap (iShr .u64 (IntKind.u64.wrap (IntKind.i64.wrap (i + j))) (1:Int)))).bind fun x => (some (decide (x.Epoch > e)))).bind fun z => (bif (!z) then (some (Sum.inl ((IntKind.i64.wrap ((IntKind.i64.wrap (iShr .u64 (IntKind.u64.wrap (IntKind.i64.wrap (i + j))) (1:Int))) + (1:Int))), j))) else (some (Sum.inl (i, (IntKind.i64.wrap (iShr .u64 (IntKind.u64.wrap (IntKind.i64.wrap (i + j))) (1:Int)))))))) else (inrO (some i))))) :
    loopO F ((0:Int), ((L.length : Nat) : Int)) = some ((lb (upto e) L : Nat) : Int) := by
  refine search_up L (upto e) (by omega) (upto_ahd hr hg e) (fun i j k hk hij hke hj => ?_) (fun i j hij => ?_)
  · have e1 : decide ((i : Int) < (j : Int)) = true := by simpa using hij
    have e2 := mid_eq (i := i) (j := j) (by omega)
    rw [← hke] at e2
    simp only [hF, e1, cond_true, e2, geto_lt hk, Option.bind_some]
    have e3 : IntKind.i64.wrap ((k : Int) + (1:Int)) = ((k + 1 : Nat) : Int) := wrap_add (a := k) (b := 1) (by omega)
    by_cases hl : L[k].Epoch ≤ e
    · have : ¬ L[k].Epoch > e := by omega
      simp [upto, hl, e3, this]
    · have : L[k].Epoch > e := by omega
      simp [upto, hl, this]
  · have e1 : decide ((i : Int) < (j : Int)) = false := by simpa using hij
    simp only [hF, e1, cond_false, inrO, Option.map_some]
theorem lb_top {L : List mvcc_Version} (e : Int) (hr : Rise vk L) (hg : ∀ v ∈ L, vG v) : (lb (upto e) L = 0 ∧ isTop L e none) ∨ (∃ h : lb (upto e) L - 1 < L.length, 0 < lb (upto e) L ∧ isTop L e (some L[lb (upto e) L - 1])) := by
  have hle := lb_le (upto e) L
  have hge : ∀ i (h : i < L.length), lb (upto e) L ≤ i → e < L[i].Epoch := fun i h hi => by
    have hk : lb (upto e) L < L.length := by omega
    have h1 : upto e L[lb (upto e) L] = false := lb_at hk
    have h2 : e < L[lb (upto e) L].Epoch := by simpa [upto] using h1
    rcases Nat.eq_or_lt_of_le hi with h3 | h3
    · subst h3; exact h2
    · have := (vk_lt (hg _ (List.getElem_mem hk)) (hg _ (List.getElem_mem h))).1 (hr.lt hk h h3); omega
  by_cases h0 : lb (upto e) L = 0
  · refine .inl ⟨h0, fun v hv => ?_⟩
    obtain ⟨i, hi, rfl⟩ := List.mem_iff_getElem.1 hv
    exact hge i hi (by omega)
  · have hk : lb (upto e) L - 1 < L.length := by omega
    refine .inr ⟨hk, by omega, List.getElem_mem hk, ?_, fun w hw hwe => ?_⟩
    · have := lb_lt (p := upto e) (l := L) (a := lb (upto e) L - 1) (by omega)
      simpa [upto] using this
    · obtain ⟨i, hi, rfl⟩ := List.mem_iff_getElem.1 hw
      have hil : i < lb (upto e) L := by
        rcases Nat.lt_or_ge i (lb (upto e) L) with h | h
        · exact h
        · have := hge i hi h; omega
      rcases Nat.eq_or_lt_of_le (show i ≤ lb (upto e) L - 1 by omega) with h | h
      · subst h; exact Int.le_refl _
      · have := hr.lt hi hk h; omega
theorem read_eq {L : List mvcc_Version} (e : Int) (hr : Rise vk L) (hg : ∀ v ∈ L, vG v) (hn : L.length ≤ 1000000) (hv : ∀ v ∈ L, v.Val.length ≤ 1000000) : ∃ o, isTop L e o ∧ mvcc_read L e = some (gotOf o) := by
  have h := esearch (F := mvcc_read_l0 L e) e hr hg hn fun s => rfl
  simp only [mvcc_read, h, Option.bind_some]
  rcases lb_top e hr hg with ⟨h0, ht⟩ | ⟨hk, h0, ht⟩
  · refine ⟨none, ht, ?_⟩
    rw [h0]; rfl
  · refine ⟨_, ht, ?_⟩
    have hle := lb_le (upto e) L
    have e1 : ((((lb (upto e) L : Nat) : Int)) == (0:Int)) = false := by simp; omega
    have e2 : IntKind.i64.wrap ((((lb (upto e) L : Nat) : Int)) - (1:Int)) = ((lb (upto e) L - 1 : Nat) : Int) := wrap_sub (a := lb (upto e) L) (b := 1) (by omega) (by omega)
    rw [e1, cond_false, e2, geto_lt hk, Option.bind_some]
    rw [show gotOf (some L[lb (upto e) L - 1]) = (bif L[lb (upto e) L - 1].Del then { Has := false, Val := [] } else { Has := true, Val := L[lb (upto e) L - 1].Val }) from rfl]
    cases hd : L[lb (upto e) L - 1].Del with
    | true => rfl
    | false =>
      simp only [cond_false, slices_Clone_byte_byte]
      rw [gd_true (room_le (by have := hv _ (List.getElem_mem hk); simp only [List.length_nil]; omega))]
      rfl
theorem Inv.rowlen {n : Nat} {l : List mvcc_row} {m : List ref11_Version} (h : Inv n l m) (r : Int) : (rowV l r).length ≤ n := by
  rw [(row_perm h r).length_eq]
  have := List.length_filter_le (fun y : ref11_Version => decide (fRank y.At = r)) m
  have := h.mlen
  simp only [Lm, List.length_map]; omega
theorem Inv.rowg {n : Nat} {l : List mvcc_row} {m : List ref11_Version} (h : Inv n l m) {r : Int} {v : mvcc_Version} (hv : v ∈ rowV l r) : vG v ∧ v.Val.length ≤ 256 ∧ U8s v.Val := by
  obtain ⟨y, hy, _, rfl⟩ := Lm_mem.1 ((row_perm h r).mem_iff.1 hv)
  exact (h.xg y hy).2
theorem m_get_eq {n : Nat} {l : List mvcc_row} {m : List ref11_Version} (h : Inv n l m) (hn : n ≤ 10000) {a : Nat} (ha : isF a) (e : Int) : ∃ o, isTop (rowV l (fRank a)) e o ∧ mvcc_Store_Get (some { rows := l }) a e = some (gotOf o) := by
  obtain ⟨o, h1, h2⟩ := read_eq e (rowV_rise h.rise h.vr (fRank a)) (fun v hv => (h.rowg hv).1) (by have := h.rowlen (fRank a); omega) (fun v hv => by have := (h.rowg hv).2.1; omega)
  have hl := h.good.len
  simp only [mvcc_Store_Get, rank_eq ha, Option.bind_some, m_find_eq h.rise (show l.length ≤ 1000000 by omega)]
  cases hh : hit rk (fRank a) l with
  | false =>
    have e3 : rowV l (fRank a) = [] := by
      unfold rowV
      have : rlook rk (fRank a) l = none := by simp [rlook, hh]
      rw [this]
    rw [e3]
    exact ⟨none, fun v hv => (by cases hv), rfl⟩
  | true =>
    obtain ⟨hk, h3, h4⟩ := look_lt hh
    have e3 : rowV l (fRank a) = l[pl rk (fRank a) l].l := by unfold rowV; rw [h4]
    refine ⟨o, h1, ?_⟩
    simp only [Bool.not_true, cond_false, geto_lt hk, Option.bind_some]
    rw [← e3, h2]; rfl
def matV (r e : Int) (y : ref11_Version) : Prop := fRank y.At = r ∧ y.Epoch ≤ e
def lastT (m : List ref11_Version) (r e : Int) (i : Nat) (k : Int) : Prop := (k = -1 ∧ ∀ j (h : j < m.length), j < i → ¬ matV r e m[j]) ∨ (∃ a, ∃ ha : a < m.length, k = (a : Int) ∧ matV r e m[a] ∧ ∀ j (h : j < m.length), j < i → matV r e m[j] → vk (ver m[j]) ≤ vk (ver m[a]))
theorem m_last_eq {m : List ref11_Version} (hx : ∀ y ∈ m, xG y) (hn : m.length ≤ 1000000) {a : Nat} (ha : isF a) (e : Int) : ∃ k, ref11_last m a e = some k ∧ lastT m (fRank a) e m.length k := by
  unfold ref11_last
  refine loop_inv (body := ref11_last_l0 m a e) (Inv := fun s => ∃ i : Nat, s.2 = (i : Int) ∧ i ≤ m.length ∧ lastT m (fRank a) e i s.1) (m := fun s => (m.length - s.2).toNat) (Q := fun k => lastT m (fRank a) e m.length k) (fun s hs => ?_) ⟨0, rfl, Nat.zero_le _, .inl ⟨rfl, fun j _ h => by omega⟩⟩
  obtain ⟨k, z⟩ := s
  obtain ⟨i, rfl, hi, hT⟩ := hs
  by_cases hil : i < m.length
  · have hmi := List.getElem_mem hil
    simp only [ref11_last_l0, lt_t hil, cond_true, geto_lt hil, Option.bind_some, same_eq (hx _ hmi).1 ha, wrap_succ (show i ≤ 4294967295 by omega)]
    have keep : ¬ matV (fRank a) e m[i] → lastT m (fRank a) e (i + 1) k := fun hnm => by
      rcases hT with ⟨h1, h2⟩ | ⟨b, hb, h1, h2, h3⟩
      · refine .inl ⟨h1, fun j hj hji => ?_⟩
        rcases Nat.lt_or_ge j i with h | h
        · exact h2 j hj h
        · have : j = i := by omega
          subst this; exact hnm
      · refine .inr ⟨b, hb, h1, h2, fun j hj hji hm => ?_⟩
        rcases Nat.lt_or_ge j i with h | h
        · exact h3 j hj h hm
        · have : j = i := by omega
          subst this; exact absurd hm hnm
    have fin : ∀ k' : Int, lastT m (fRank a) e (i + 1) k' → ∃ s', (some (Sum.inl (k', ((i + 1 : Nat) : Int))) : Option ((Int × Int) ⊕ Int)) = some (.inl s') ∧ (∃ i : Nat, s'.2 = (i : Int) ∧ i ≤ m.length ∧ lastT m (fRank a) e i s'.1) ∧ (m.length - s'.2).toNat < (m.length - (i : Int)).toNat := fun k' hk' => ⟨_, rfl, ⟨i + 1, rfl, by omega, hk'⟩, by show ((m.length : Int) - ((i + 1 : Nat) : Int)).toNat < _; omega⟩
    left
    by_cases h1 : fRank m[i].At = fRank a
    · by_cases h2 : m[i].Epoch ≤ e
      · have hmat : matV (fRank a) e m[i] := ⟨h1, h2⟩
        rcases hT with ⟨h3, h4⟩ | ⟨b, hb, h3, h4, h5⟩
        · subst h3
          have := fin (i : Int) (.inr ⟨i, hil, rfl, hmat, fun j hj hji hm => by
            rcases Nat.lt_or_ge j i with h | h
            · exact absurd hm (h4 j hj h)
            · have : j = i := by omega
              subst this; exact Int.le_refl _⟩)
          simpa [h1, h2] using this
        · subst h3
          have hg1 := (hx _ (List.getElem_mem hb)).2.1
          have hg2 := (hx _ hmi).2.1
          have hb0 : ¬ ((b : Int) < 0) := by omega
          have hlt := vk_lt hg1 hg2
          by_cases h6 : vk (ver m[b]) < vk (ver m[i])
          · have := fin (i : Int) (.inr ⟨i, hil, rfl, hmat, fun j hj hji hm => by
              rcases Nat.lt_or_ge j i with h | h
              · have := h5 j hj h hm; omega
              · have : j = i := by omega
                subst this; exact Int.le_refl _⟩)
            have h7 : m[b].Epoch < m[i].Epoch ∨ (m[b].Epoch = m[i].Epoch ∧ m[b].Index < m[i].Index) := hlt.1 h6
            by_cases h8 : m[b].Epoch < m[i].Epoch
            · simpa [h1, h2, hb0, geto_lt hb, h8] using this
            · have h9 := h7.resolve_left h8
              simpa [h1, h2, hb0, geto_lt hb, h9.1, h9.2] using this
          · have := fin (b : Int) (.inr ⟨b, hb, rfl, h4, fun j hj hji hm => by
              rcases Nat.lt_or_ge j i with h | h
              · exact h5 j hj h hm
              · have : j = i := by omega
                subst this; omega⟩)
            have h7 : ¬ (m[b].Epoch < m[i].Epoch ∨ (m[b].Epoch = m[i].Epoch ∧ m[b].Index < m[i].Index)) := fun h => h6 (hlt.2 h)
            have h8 : ¬ m[b].Epoch < m[i].Epoch := fun h => h7 (.inl h)
            by_cases h9 : m[b].Epoch = m[i].Epoch
            · have h10 : ¬ m[b].Index < m[i].Index := fun h => h7 (.inr ⟨h9, h⟩)
              simpa [h1, h2, hb0, geto_lt hb, h9, h10] using this
            · have h11 : (m[b].Epoch == m[i].Epoch) = false := by simpa using h9
              simpa [h1, h2, hb0, geto_lt hb, h8, h11] using this
      · have := fin k (keep fun h => h2 h.2)
        simpa [h1, h2] using this
    · have := fin k (keep fun h => h1 h.1)
      simpa [h1] using this
  · have e1 : i = m.length := by omega
    subst e1
    refine .inr ⟨k, ?_, hT⟩
    simp [ref11_last_l0, inrO]
theorem refget_eq {m : List ref11_Version} (hx : ∀ y ∈ m, xG y) (hn : m.length ≤ 1000000) {a : Nat} (ha : isF a) (e : Int) : ∃ o, isTop (Lm (fRank a) m) e o ∧ ref11_Get m a e = some (gotOf o) := by
  obtain ⟨k, h1, h2⟩ := m_last_eq hx hn ha e
  simp only [ref11_Get, h1, Option.bind_some]
  rcases h2 with ⟨rfl, h3⟩ | ⟨b, hb, rfl, h4, h5⟩
  · refine ⟨none, fun v hv => ?_, rfl⟩
    obtain ⟨y, hy, h6, rfl⟩ := Lm_mem.1 hv
    obtain ⟨j, hj, rfl⟩ := List.mem_iff_getElem.1 hy
    have := h3 j hj hj
    rcases Int.lt_or_le e (ver m[j]).Epoch with h | h
    · exact h
    · exact absurd ⟨h6, h⟩ this
  · refine ⟨some (ver m[b]), ⟨Lm_mem.2 ⟨_, List.getElem_mem hb, h4.1, rfl⟩, h4.2, fun w hw hwe => ?_⟩, ?_⟩
    · obtain ⟨y, hy, h6, rfl⟩ := Lm_mem.1 hw
      obtain ⟨j, hj, rfl⟩ := List.mem_iff_getElem.1 hy
      exact h5 j hj hj ⟨h6, hwe⟩
    · have hb0 : decide ((b : Int) < 0) = false := by simp
      rw [hb0, cond_false, geto_lt hb, Option.bind_some]
      rw [show gotOf (some (ver m[b])) = (bif m[b].Del then { Has := false, Val := [] } else { Has := true, Val := m[b].Val }) from rfl]
      cases m[b].Del <;> rfl
theorem got_same {n : Nat} {l : List mvcc_row} {m : List ref11_Version} (h : Inv n l m) (hn : n ≤ 10000) {a : Nat} (ha : isF a) (e : Int) : ∃ o, isTop (rowV l (fRank a)) e o ∧ mvcc_Store_Get (some { rows := l }) a e = some (gotOf o) ∧ ref11_Get m a e = some (gotOf o) := by
  obtain ⟨o, h1, h2⟩ := m_get_eq h hn ha e
  obtain ⟨p, h3, h4⟩ := refget_eq h.xg (by have := h.mlen; omega) ha e
  have : o = p := top_one (rowV_rise h.rise h.vr _) (row_perm h _) h1 h3
  subst this
  exact ⟨o, h1, h2, h4⟩
end Go.Proofs.YtgnkkopjkgdieaaGreat
