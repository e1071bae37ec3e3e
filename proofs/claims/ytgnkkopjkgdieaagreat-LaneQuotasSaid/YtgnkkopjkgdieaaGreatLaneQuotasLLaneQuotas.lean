/- No more is released by a rule in an epoch than it allows: the plain law. -/
import Derived.Test.YtgnkkopjkgdieaaGreatLaneQuotasLnA
import Derived.Test.YtgnkkopjkgdieaaGreatLaneQuotasSesP
import Derived.Test.YtgnkkopjkgdieaaGreatLaneQuotasA
set_option linter.unusedVariables false
set_option linter.unusedSimpArgs false
set_option maxRecDepth 100000
namespace Go.Proofs.YtgnkkopjkgdieaaGreat
open Go Go.V
def qS (w : Nat) (e : Int) (t : List session_row) (u : List lane_used) (o : List api_Item) : lane_State := { wide := (w : Int), epoch := e, store := some { rows := [] }, locks := some { l := [] }, last := some { l := t }, book := some { l := [] }, open_ := [], out := o, used := u }
def itm (m w : Nat) (v : List Int) (j : Nat) : api_Item := { To := 1, N := ((j + 1 : Nat) : Int), Rule := 3, Epoch := ((j / m + 1 : Nat) : Int), W := { At := 4611686018427387904, Del := false, Val := padV w v } }
def its (m w : Nat) (v : List Int) (c : Nat) : List api_Item := (List.range c).map (itm m w v)
def cmdG (e q : Int) (s : Int) (v : List Int) : api_Command := { Kind := 7, ID := { Session := e, Seq := s }, Epoch := e, Index := 0, E := 0, Hold := zero_api_Hold, Writes := [{ At := 4611686018427387904, Del := false, Val := v }], R := zero_api_Reply, Shards := 0, Parts := [], Rule := { ID := 3, From := 0, To := 1, Lo := 0, Hi := 0, Authority := 0, Quota := q }, On := false }
theorem flt_loop {body : Int × List api_Item → Option ((Int × List api_Item) ⊕ List api_Item)} (l : List api_Item) (p : api_Item → Bool) (hn : l.length ≤ 1000000)
    (h : ∀ s, body s = match s with | (z, a) => (bif (decide (z < ((l.length : Nat) : Int))) then ((geto l z).bind fun x => (bif p x then (gd (room a ([x])) (some (Sum.inl ((IntKind.i64.wrap (z + (1:Int))), (a ++ ([x])))))) else (some (Sum.inl ((IntKind.i64.wrap (z + (1:Int))), a))))) else (inrO (some a)))) : loopO body ((0:Int), []) = some (l.filter p) := by
  have := loop_range (body := body) (fun i => ((i : Int), (l.take i).filter p)) l.length (l.filter p) (fun i hi => by
    have hl : ((l.take i).filter p).length ≤ i := by
      have := List.length_filter_le p (l.take i)
      rw [List.length_take] at this; omega
    rw [h]
    simp only [lt_t hi, cond_true, geto_lt hi, Option.bind_some, wrap_succ (show i ≤ 4294967295 by omega), gd_true (room_one (xs := (l.take i).filter p) (x := l[i]) (by omega)), List.take_succ_eq_append_getElem hi, List.filter_append]
    cases hp : p l[i] <;> simp [hp]) (by rw [h]; simp [inrO])
  simpa using this
theorem its_all (m w : Nat) (v : List Int) (c : Nat) : (its m w v c).filter (fun x => x.To == (1:Int)) = its m w v c := List.filter_eq_self.2 fun x hx => by
  obtain ⟨j, _, rfl⟩ := List.mem_map.1 hx; rfl
theorem its_none (m w : Nat) (v : List Int) (c : Nat) : (its m w v c).filter (fun x => x.To == (0:Int)) = [] := List.filter_eq_nil_iff.2 fun x hx => by
  obtain ⟨j, _, rfl⟩ := List.mem_map.1 hx; simp [itm]
theorem its_len (m w : Nat) (v : List Int) (c : Nat) : (its m w v c).length = c := by simp [its]
theorem its_succ (m w : Nat) (v : List Int) (c : Nat) : its m w v (c + 1) = its m w v c ++ [itm m w v c] := by simp [its, List.range_succ]
theorem g_self (x : lane_used) : lane_State_give_1 x x.rule = some 0 := by
  have h : ∀ a : Int, cmp_Compare_uint64 a a = some 0 := fun a => by rw [cmp_u64]; simp
  simp only [lane_State_give_1, h, Option.bind_some]
theorem gfind0 (s : lane_State) (a : api_Command) (hs : s.used = []) : ((loopO (lane_State_give_l1 s a) (((s.used).length : Int), (0:Int))).bind (lane_State_give_j0 s a)) = some (0, false) := by
  have h : loopO (lane_State_give_l1 s a) (((s.used).length : Int), (0:Int)) = some 0 := by
    rw [loopO_eq, hs]; rfl
  rw [h, Option.bind_some]
  simp only [lane_State_give_j0, hs]
  rfl
theorem gfind1 (s : lane_State) (a : api_Command) (x : lane_used) (hs : s.used = [x]) (hx : a.Rule.ID = x.rule) : ((loopO (lane_State_give_l1 s a) (((s.used).length : Int), (0:Int))).bind (lane_State_give_j0 s a)) = some (0, true) := by
  have g0 : geto [x] (0:Int) = some x := rfl
  have h : loopO (lane_State_give_l1 s a) (((s.used).length : Int), (0:Int)) = some 0 := by
    rw [hs]
    refine loop_range (fun i : Nat => ((if i = 0 then ((([x] : List lane_used).length : Nat) : Int) else 0), (0:Int))) 1 0 (fun i hi => ?_) rfl
    have : i = 0 := by omega
    subst this
    have e1 : IntKind.i64.wrap (iShr .u64 (IntKind.u64.wrap (IntKind.i64.wrap ((0:Int) + ((([x] : List lane_used).length : Nat) : Int)))) (1:Int)) = 0 := mid_eq (i := 0) (j := 1) (by omega)
    have e2 : decide ((0:Int) < ((([x] : List lane_used).length : Nat) : Int)) = true := by simp
    simp only [lane_State_give_l1, if_true, hs, e1, e2, cond_true, g0, Option.bind_some, hx, g_self]
    rfl
  rw [h, Option.bind_some]
  have e2 : decide ((0:Int) < ((([x] : List lane_used).length : Nat) : Int)) = true := by simp
  simp only [lane_State_give_j0, hs, e2, cond_true, g0, Option.bind_some, hx, g_self]
  rfl
def usedOK (u : List lane_used) (e : Int) (c : Nat) : Prop := (u = [] ∧ c = 0) ∨ ∃ x : lane_used, u = [x] ∧ x.rule = 3 ∧ ((x.epoch = e ∧ x.n = (c : Int)) ∨ (x.epoch < e ∧ c = 0))
def ansG (E e n : Int) : api_Reply := { E := E, Epoch := e, Index := n, Gots := [], Scans := [] }
theorem ap_give (s : lane_State) (n e q i : Int) (v : List Int) : lane_State_Apply (some s) n (cmdG e q i v) = (lane_State_give (some s) n (cmdG e q i v)).bind fun t => match t.2 with | none => none | some y => some (t.1, some y) := rfl
theorem give_to {w : Nat} {e : Int} {t : List session_row} {u : List lane_used} {o : List api_Item} {c : Nat} (hu : usedOK u e c) (n q i : Int) (v : List Int) :
    ∃ b, ((b = false ∧ u = []) ∨ (b = true ∧ ∃ x : lane_used, u = [x] ∧ x.rule = 3)) ∧ lane_State_give (some (qS w e t u o)) n (cmdG e q i v) = lane_State_give_j2 (cmdG e q i v) (qS w e t u o) n b 0 (c : Int) := by
  rcases hu with ⟨rfl, rfl⟩ | ⟨x, rfl, hr, hx⟩
  · refine ⟨false, .inl ⟨rfl, rfl⟩, ?_⟩
    unfold lane_State_give
    dsimp only
    rw [gfind0 _ _ rfl, Option.bind_some]
    rfl
  · refine ⟨true, .inr ⟨rfl, x, rfl, hr⟩, ?_⟩
    unfold lane_State_give
    dsimp only
    rw [gfind1 _ _ x rfl (by rw [hr]; rfl), Option.bind_some]
    have g0 : geto (qS w e t [x] o).used (0:Int) = some x := rfl
    dsimp only
    rw [cond_true, g0, Option.bind_some]
    have : (bif x.epoch == (cmdG e q i v).Epoch then some x.n else some (0:Int)) = some (c : Int) := by
      rcases hx with ⟨h1, h2⟩ | ⟨h1, h2⟩
      · have b1 : (x.epoch == (cmdG e q i v).Epoch) = true := by show (x.epoch == e) = true; simpa using h1
        rw [b1, h2]; rfl
      · have b1 : (x.epoch == (cmdG e q i v).Epoch) = false := by show (x.epoch == e) = false; simp; omega
        rw [b1, h2]; rfl
    rw [this, Option.bind_some]
theorem give_j2eq {w : Nat} {e : Int} {t : List session_row} {u : List lane_used} {o : List api_Item} {c : Nat} (n q i : Int) (v : List Int) (b : Bool) :
    lane_State_give_j2 (cmdG e q i v) (qS w e t u o) n b 0 (c : Int) = lane_State_give_j3 (qS w e t u o) (cmdG e q i v) n b 0 (c : Int) (bif decide ((c : Int) ≥ q) then 13 else 0) := by
  unfold lane_State_give_j2
  have b1 : ((cmdG e q i v).R.E != (0:Int)) = false := rfl
  have b2 : ((cmdG e q i v).Epoch != (qS w e t u o).epoch) = false := by show (e != e) = false; simp
  have b3 : ((((cmdG e q i v).Writes).length : Int) != (1:Int)) = false := rfl
  rw [b1, b2, b3]
  show ((bif decide ((c : Int) ≥ q) then some (13:Int) else some (0:Int))).bind _ = _
  cases decide ((c : Int) ≥ q) <;> rfl
theorem give_no {w : Nat} {e : Int} {t t' : List session_row} {u : List lane_used} {o : List api_Item} {c : Nat} (hu : usedOK u e c) {n q i : Int} (v : List Int) (hq : q ≤ (c : Int)) (hp : session_Table_Put (some { l := t }) e i (ansG 13 e n) = some (0, some { l := t' })) :
    lane_State_Apply (some (qS w e t u o)) n (cmdG e q i v) = some ({ Kind := 4, ID := { Session := e, Seq := i }, R := ansG 13 e n }, some (qS w e t' u o)) := by
  obtain ⟨b, _, h⟩ := give_to (w := w) (t := t) (o := o) hu n q i v
  rw [ap_give, h, give_j2eq, show decide ((c : Int) ≥ q) = true by simpa using hq, cond_true]
  unfold lane_State_give_j3
  rw [show session_Table_Put (qS w e t u o).last (cmdG e q i v).ID.Session (cmdG e q i v).ID.Seq ({ E := 13, Epoch := (cmdG e q i v).Epoch, Index := n, Gots := [], Scans := [] } : api_Reply) = some (0, some { l := t' }) from hp, Option.bind_some]
  rfl
theorem give_yes {w m : Nat} {e : Int} {t t' : List session_row} {u : List lane_used} {c g : Nat} {v : List Int} (hu : usedOK u e c) {n q i : Int} (hq : ¬ q ≤ (c : Int)) (hw : w ≤ 1000) (hg : g ≤ 1000) (hc : c ≤ 1000) (hge : ((g / m + 1 : Nat) : Int) = e) (hp : session_Table_Put (some { l := t }) e i (ansG 0 e n) = some (0, some { l := t' })) :
    lane_State_Apply (some (qS w e t u (its m w v g))) n (cmdG e q i v) = some ({ Kind := 4, ID := { Session := e, Seq := i }, R := ansG 0 e n }, some (qS w e t' [{ rule := 3, epoch := e, n := ((c + 1 : Nat) : Int) }] (its m w v (g + 1)))) := by
  obtain ⟨b, hb, h⟩ := give_to (w := w) (t := t) (o := its m w v g) hu n q i v
  rw [ap_give, h, give_j2eq, show decide ((c : Int) ≥ q) = false by simp; omega, cond_false]
  unfold lane_State_give_j3
  rw [show session_Table_Put (qS w e t u (its m w v g)).last (cmdG e q i v).ID.Session (cmdG e q i v).ID.Seq ({ E := 0, Epoch := (cmdG e q i v).Epoch, Index := n, Gots := [], Scans := [] } : api_Reply) = some (0, some { l := t' }) from hp, Option.bind_some]
  have j5 : ∀ x : lane_used, x.rule = 3 → lane_State_give_j5 0 (cmdG e q i v) (c : Int) (qS w e t' [x] (its m w v g)) = some (qS w e t' [{ rule := 3, epoch := e, n := ((c + 1 : Nat) : Int) }] (its m w v (g + 1))) := fun x hx => by
    unfold lane_State_give_j5
    have g0 : geto (qS w e t' [x] (its m w v g)).used (0:Int) = some x := rfl
    have g1 : geto (cmdG e q i v).Writes (0:Int) = some { At := 4611686018427387904, Del := false, Val := v } := rfl
    have hL := flt_loop (body := lane_State_give_l6 (qS w e t' [x] (its m w v g)) (cmdG e q i v)) (its m w v g) (fun x => x.To == (1:Int)) (by rw [its_len]; omega) fun s => rfl
    rw [its_all] at hL
    have hpad := pad_eq { At := 4611686018427387904, Del := false, Val := v } (n := (w : Int)) (by omega)
    simp only [Bool.false_eq_true, if_false, Int.toNat_natCast] at hpad
    rw [g0, Option.bind_some, g1, Option.bind_some, hL, Option.bind_some, show (qS w e t' [x] (its m w v g)).wide = (w : Int) from rfl, hpad, Option.bind_some]
    have hN : IntKind.u64.wrap (IntKind.i64.wrap ((((its m w v g).length : Nat) : Int) + (1:Int))) = ((g + 1 : Nat) : Int) := by
      rw [its_len, wrap_succ (by omega), wrap_u64_eq]; omega
    have hitem : ({ To := (cmdG e q i v).Rule.To, N := IntKind.u64.wrap (IntKind.i64.wrap ((((its m w v g).length : Nat) : Int) + (1:Int))), Rule := (cmdG e q i v).Rule.ID, Epoch := (cmdG e q i v).Epoch, W := { At := 4611686018427387904, Del := false, Val := padV w v } } : api_Item) = itm m w v g := by
      rw [hN]; unfold itm; rw [hge]; rfl
    rw [hitem]
    have hr : room (qS w e t' [x] (its m w v g)).out [itm m w v g] = true := room_one (by show (its m w v g).length ≤ _; rw [its_len]; omega)
    rw [gd_true hr, wrap_succ (show c ≤ 4294967295 by omega), its_succ]
    obtain ⟨xr, xe, xn⟩ := x
    have hx' : xr = 3 := hx
    subst hx'
    rfl
  have hst : ((bif (!b) then ((slices_Insert_lane_used_lane_used (qS w e t u (its m w v g)).used 0 ([({ rule := (cmdG e q i v).Rule.ID, epoch := (0:Int), n := (0:Int) } : lane_used)])).bind fun t894 => (some (qS w e t' t894 (its m w v g)))) else (some (qS w e t' u (its m w v g)))).bind (lane_State_give_j5 0 (cmdG e q i v) (c : Int))) = some (qS w e t' [{ rule := 3, epoch := e, n := ((c + 1 : Nat) : Int) }] (its m w v (g + 1))) := by
    rcases hb with ⟨rfl, rfl⟩ | ⟨rfl, x, rfl, hx⟩
    · have hi : slices_Insert_lane_used_lane_used [] 0 [({ rule := 3, epoch := (0:Int), n := (0:Int) } : lane_used)] = some [{ rule := 3, epoch := 0, n := 0 }] := by
        unfold slices_Insert_lane_used_lane_used
        rw [gd_true (by simp [insOK, room])]; rfl
      simp only [Bool.not_false, cond_true]
      rw [show slices_Insert_lane_used_lane_used (qS w e t [] (its m w v g)).used 0 ([({ rule := (cmdG e q i v).Rule.ID, epoch := (0:Int), n := (0:Int) } : lane_used)]) = some [{ rule := 3, epoch := 0, n := 0 }] from hi, Option.bind_some, Option.bind_some]
      exact j5 _ rfl
    · simp only [Bool.not_true, cond_false, Option.bind_some]
      exact j5 x hx
  show (((bif (!b) then ((slices_Insert_lane_used_lane_used (qS w e t u (its m w v g)).used 0 ([({ rule := (cmdG e q i v).Rule.ID, epoch := (0:Int), n := (0:Int) } : lane_used)])).bind fun t894 => (some (qS w e t' t894 (its m w v g)))) else (some (qS w e t' u (its m w v g)))).bind (lane_State_give_j5 0 (cmdG e q i v) (c : Int))).bind (lane_State_give_j4 (cmdG e q i v) 0 n)).bind _ = _
  rw [hst]
  rfl
theorem close_q (w : Nat) (e : Nat) (he : e < 8) (t : List session_row) (u : List lane_used) (o : List api_Item) (n : Int) : ∃ f, lane_State_Apply (some (qS w (e : Int) t u o)) n { Kind := 1, ID := { Session := 0, Seq := 0 }, Epoch := (e : Int), Index := 0, E := 0, Hold := zero_api_Hold, Writes := [], R := zero_api_Reply, Shards := 0, Parts := [], Rule := zero_api_Rule, On := false } = some (f, some (qS w ((e + 1 : Nat) : Int) t u o)) := by
  refine ⟨{ Kind := 1, ID := { Session := 0, Seq := 0 }, R := zero_api_Reply }, ?_⟩
  show (lane_State_shut (some (qS w (e : Int) t u o)) _).bind _ = _
  unfold lane_State_shut lane_State_May
  dsimp only
  have b1 : ((e : Int) != (qS w (e : Int) t u o).epoch) = false := by show ((e : Int) != (e : Int)) = false; simp
  rw [b1, cond_false, show (qS w (e : Int) t u o).locks = some { l := [] } from rfl, ln_until, Option.bind_some, Option.bind_some]
  have e1 : IntKind.u64.wrap ((qS w (e : Int) t u o).epoch + (1:Int)) = ((e + 1 : Nat) : Int) := by show IntKind.u64.wrap ((e : Int) + 1) = _; rw [wrap_u64_eq]; omega
  have b2 : decide (((e + 1 : Nat) : Int) > 9) = false := by simp; omega
  rw [e1, b2]
  rfl
theorem put_next {t : List session_row} (ht : Rise t) (hl : t.length ≤ 999999) {e : Int} {i : Nat} (hs : seqOf e t = (i : Int)) (R : api_Reply) : session_Table_Put (some { l := t }) e ((i + 1 : Nat) : Int) R = some (0, some { l := putL t (rw_ e ((i + 1 : Nat) : Int) R) }) := by
  rw [put_eq ht hl e ((i + 1 : Nat) : Int) R (by omega), if_neg (by omega), if_neg (by omega)]
theorem seq_put {t : List session_row} (ht : Rise t) (e q : Int) (R : api_Reply) (s : Int) : seqOf s (putL t (rw_ e q R)) = if s = e then q else seqOf s t := by
  unfold seqOf
  rw [look_put ht]
  by_cases h : s = e
  · rw [if_pos (show s = (rw_ e q R).session from h), if_pos h]; rfl
  · rw [if_neg (show ¬ s = (rw_ e q R).session from h), if_neg h]
theorem inner_q {a0 a1 : Int} {v : List Int} {q K w m e : Nat} (hq : Int.tmod (IntKind.i64.wrap a0) 5 = (q : Int)) (hK : Int.tmod (IntKind.i64.wrap a1) 8 = (K : Int)) (hm : m = min K q) (k8 : K < 8) (q5 : q < 5) (hw : w ≤ 1000) (he0 : 1 ≤ e) (he : e ≤ 3) {t : List session_row} {u : List lane_used}
    (ht : Rise t) (hl : t.length ≤ 1000) (hs : ∀ s : Int, (e : Int) ≤ s → seqOf s t = 0) (hu : usedOK u (e : Int) 0) :
    ∃ t2 u2, loopO (law16_LaneQuotas_l3 a1 (e : Int) v a0) (qS w (e : Int) t u (its m w v ((e - 1) * m)), (0:Int)) = some (Sum.inl (qS w (e : Int) t2 u2 (its m w v (e * m)))) ∧ Rise t2 ∧ t2.length ≤ t.length + 8 ∧ (∀ s : Int, (e : Int) < s → seqOf s t2 = 0) ∧ usedOK u2 (e : Int) m := by
  have hem : e * m = (e - 1) * m + m := by
    obtain ⟨d, rfl⟩ := Nat.exists_eq_add_of_le he0
    rw [Nat.add_mul, Nat.one_mul, Nat.add_sub_cancel_left, Nat.add_comm]
  obtain ⟨r, h1, t2, u2, h2, h3, h4, h5, h6⟩ := loop_inv (body := law16_LaneQuotas_l3 a1 (e : Int) v a0)
    (Inv := fun s => ∃ (i : Nat) (t' : List session_row) (u' : List lane_used), s = (qS w (e : Int) t' u' (its m w v ((e - 1) * m + min i q)), (i : Int)) ∧ i ≤ K ∧ Rise t' ∧ t'.length ≤ t.length + i ∧ seqOf (e : Int) t' = (i : Int) ∧ (∀ s : Int, (e : Int) < s → seqOf s t' = 0) ∧ usedOK u' (e : Int) (min i q))
    (m := fun s => ((K : Int) - s.2).toNat) (Q := fun r => ∃ t2 u2, r = Sum.inl (qS w (e : Int) t2 u2 (its m w v (e * m))) ∧ Rise t2 ∧ t2.length ≤ t.length + 8 ∧ (∀ s : Int, (e : Int) < s → seqOf s t2 = 0) ∧ usedOK u2 (e : Int) m) (fun s hs' => by
      obtain ⟨i, t', u', rfl, hi, g1, g2, g3, g4, g5⟩ := hs'
      by_cases hiK : i < K
      · left
        have e1 : decide ((i : Int) < (K : Int)) = true := by simpa using hiK
        have e2 : IntKind.u64.wrap (IntKind.i64.wrap ((i : Int) + (1:Int))) = ((i + 1 : Nat) : Int) := by rw [wrap_succ (by omega), wrap_u64_eq]; omega
        have hz : zero_api_Reply = zero_api_Reply := rfl
        by_cases hqi : q ≤ i
        · have hc : min i q = q := by omega
          have hc2 : min (i + 1) q = q := by omega
          rw [hc] at g5 ⊢
          have hg := give_no (w := w) (t := t') (o := its m w v ((e - 1) * m + q)) (n := IntKind.u64.wrap ((IntKind.u64.wrap ((e : Int) * (100:Int))) + (IntKind.u64.wrap (i : Int)))) g5 v (q := (q : Int)) (Int.le_refl _) (put_next g1 (by omega) g3 (ansG 13 (e : Int) _))
          unfold cmdG at hg
          have e3 : decide ((i : Int) ≥ (q : Int)) = true := by simp; omega
          simp only [law16_LaneQuotas_l3, hK, e1, cond_true, e2, hq]
          rw [hg, Option.bind_some]
          dsimp only
          rw [e3, cond_true, Option.bind_some]
          refine ⟨_, by unfold law16_LaneQuotas_j4; rw [wrap_succ (show i ≤ 4294967295 by omega)]; rfl, ⟨i + 1, _, u', by rw [hc2], by omega, putL_rise g1 _, ?_, ?_, fun s hs2 => ?_, by rw [hc2]; exact g5⟩, by dsimp only; omega⟩
          · have := putL_len g1 (rw_ (e : Int) ((i + 1 : Nat) : Int) (ansG 13 (e : Int) (IntKind.u64.wrap ((IntKind.u64.wrap ((e : Int) * (100:Int))) + (IntKind.u64.wrap (i : Int)))))); omega
          · rw [seq_put g1, if_pos rfl]
          · rw [seq_put g1, if_neg (by omega)]; exact g4 s hs2
        · have hc : min i q = i := by omega
          have hc2 : min (i + 1) q = i + 1 := by omega
          rw [hc] at g5 ⊢
          have hm0 : i < m := by omega
          have hdiv : ((e - 1) * m + i) / m = e - 1 := by
            rw [Nat.mul_comm, Nat.mul_add_div (by omega), Nat.div_eq_of_lt hm0, Nat.add_zero]
          have hb : (e - 1) * m ≤ 2 * 8 := Nat.mul_le_mul (by omega) (by omega)
          have hg := give_yes (w := w) (m := m) (t := t') (c := i) (g := (e - 1) * m + i) (v := v) (n := IntKind.u64.wrap ((IntKind.u64.wrap ((e : Int) * (100:Int))) + (IntKind.u64.wrap (i : Int)))) g5 (q := (q : Int)) (by omega) hw (by omega) (by omega) (by rw [hdiv]; omega) (put_next g1 (by omega) g3 (ansG 0 (e : Int) _))
          unfold cmdG at hg
          have e3 : decide ((i : Int) ≥ (q : Int)) = false := by simp; omega
          simp only [law16_LaneQuotas_l3, hK, e1, cond_true, e2, hq]
          rw [hg, Option.bind_some]
          dsimp only
          rw [e3, cond_false, Option.bind_some]
          refine ⟨_, by unfold law16_LaneQuotas_j4; rw [wrap_succ (show i ≤ 4294967295 by omega)]; rfl, ⟨i + 1, _, _, by rw [hc2, ← Nat.add_assoc], by omega, putL_rise g1 _, ?_, ?_, fun s hs2 => ?_, by rw [hc2]; exact .inr ⟨_, rfl, rfl, .inl ⟨rfl, rfl⟩⟩⟩, by dsimp only; omega⟩
          · have := putL_len g1 (rw_ (e : Int) ((i + 1 : Nat) : Int) (ansG 0 (e : Int) (IntKind.u64.wrap ((IntKind.u64.wrap ((e : Int) * (100:Int))) + (IntKind.u64.wrap (i : Int)))))); omega
          · rw [seq_put g1, if_pos rfl]
          · rw [seq_put g1, if_neg (by omega)]; exact g4 s hs2
      · have hiK' : i = K := by omega
        subst hiK'
        right
        have e1 : decide ((i : Int) < (i : Int)) = false := by simp
        refine ⟨Sum.inl (qS w (e : Int) t' u' (its m w v ((e - 1) * m + min i q))), ?_, t', u', by rw [hem, hm], g1, by omega, g4, by rw [hm]; exact g5⟩
        simp only [law16_LaneQuotas_l3, hK, e1, cond_false, inrO, Option.map_some]) (s := (qS w (e : Int) t u (its m w v ((e - 1) * m)), (0:Int))) ⟨0, t, u, by rw [Nat.zero_min]; rfl, Nat.zero_le _, ht, Nat.le_refl _, hs _ (Int.le_refl _), fun s h => hs s (by omega), by rw [Nat.zero_min]; exact hu⟩
  subst h2
  exact ⟨t2, u2, h1, h3, h4, h5, h6⟩
theorem laneQuotas_plain {a0 a1 a2 : Int} {a3 : List Int} (o0 : (Lit.int .u8 a0).wf = true) (o1 : (Lit.int .u8 a1).wf = true) (o2 : (Lit.int .u8 a2).wf = true) (o3 : a3.length ≤ maxLen ∧ ∀ x ∈ a3, (Lit.int .u8 x).wf = true) : law16_LaneQuotas a0 a1 a2 a3 = some true := by
  unfold law16_LaneQuotas
  simp only [ln_awake, Option.bind_some, Bool.not_true, cond_false]
  cases h0 : decide ((a3.length : Int) > (50:Int)) with
  | true => rfl
  | false =>
  have nat8 : ∀ a : Int, 0 ≤ a ∧ a < 256 → ∀ d : Nat, 0 < d → d < 256 → ∃ k : Nat, Int.tmod (IntKind.i64.wrap a) (d : Int) = (k : Int) ∧ k < d := fun a ha d hd hd2 => by
    obtain ⟨n, rfl⟩ := Int.eq_ofNat_of_zero_le ha.1
    refine ⟨n % d, ?_, Nat.mod_lt _ hd⟩
    rw [show IntKind.i64.wrap (n : Int) = (n : Int) from by rw [wrap_i64] <;> omega, Int.tmod_eq_emod_of_nonneg (Int.natCast_nonneg n)]
    rfl
  obtain ⟨q, hq, q5⟩ := nat8 a0 (lit_u8.1 o0) 5 (by omega) (by omega)
  obtain ⟨K, hK, k8⟩ := nat8 a1 (lit_u8.1 o1) 8 (by omega) (by omega)
  obtain ⟨w, hw, w20⟩ := nat8 a2 (lit_u8.1 o2) 20 (by omega) (by omega)
  have hq : Int.tmod (IntKind.i64.wrap a0) 5 = (q : Int) := hq
  have hK : Int.tmod (IntKind.i64.wrap a1) 8 = (K : Int) := hK
  have hw : Int.tmod (IntKind.i64.wrap a2) 20 = (w : Int) := hw
  obtain ⟨m, hm⟩ : ∃ m, m = min K q := ⟨_, rfl⟩
  obtain ⟨r, h1, t2, u2, h2⟩ := loop_inv (body := law16_LaneQuotas_l1 a1 a3 a0)
    (Inv := fun s => ∃ (e : Nat) (t : List session_row) (u : List lane_used), s = (qS w (e : Int) t u (its m w a3 ((e - 1) * m)), (e : Int)) ∧ 1 ≤ e ∧ e ≤ 4 ∧ Rise t ∧ t.length ≤ 8 * e ∧ (∀ s : Int, (e : Int) ≤ s → seqOf s t = 0) ∧ usedOK u (e : Int) 0)
    (m := fun s => ((4:Int) - s.2).toNat) (Q := fun r => ∃ t u, r = Sum.inl (qS w 4 t u (its m w a3 (3 * m)))) (fun s hs => by
      obtain ⟨e, t, u, rfl, e0, e4, g1, g2, g3, g4⟩ := hs
      by_cases he : e < 4
      · left
        have e1 : decide ((e : Int) < (4:Int)) = true := by simp; omega
        obtain ⟨t2, u2, k1, k2, k3, k4, k5⟩ := inner_q (v := a3) (w := w) hq hK hm k8 q5 (by omega) e0 (by omega) g1 (by omega) g3 g4
        obtain ⟨f, hf⟩ := close_q w e (by omega) t2 u2 (its m w a3 (e * m)) (IntKind.u64.wrap ((IntKind.u64.wrap ((e : Int) * (100:Int))) + (50:Int)))
        simp only [law16_LaneQuotas_l1, e1, cond_true, k1]
        refine ⟨(qS w ((e + 1 : Nat) : Int) t2 u2 (its m w a3 (e * m)), ((e + 1 : Nat) : Int)), by
          show law16_LaneQuotas_j2 (e : Int) (qS w (e : Int) t2 u2 (its m w a3 (e * m))) = _
          unfold law16_LaneQuotas_j2
          rw [hf, Option.bind_some]
          dsimp only
          rw [show IntKind.u64.wrap ((e : Int) + (1:Int)) = ((e + 1 : Nat) : Int) from by rw [wrap_u64_eq]; omega], ⟨e + 1, t2, u2, by rw [Nat.add_sub_cancel], by omega, by omega, k2, by omega, fun s hs => k4 s (by omega), ?_⟩, by dsimp only; omega⟩
        rcases k5 with ⟨rfl, _⟩ | ⟨x, rfl, hx, hy⟩
        · exact .inl ⟨rfl, rfl⟩
        · refine .inr ⟨x, rfl, hx, .inr ⟨?_, rfl⟩⟩
          rcases hy with ⟨h, _⟩ | ⟨h, _⟩ <;> omega
      · have : e = 4 := by omega
        subst this
        right
        exact ⟨Sum.inl (qS w 4 t u (its m w a3 (3 * m))), rfl, t, u, rfl⟩) (s := (qS w 1 [] [] (its m w a3 0), (1:Int))) ⟨1, [], [], by rw [Nat.sub_self, Nat.zero_mul]; rfl, by omega, by omega, rise_nil, by simp, fun s _ => rfl, .inl ⟨rfl, rfl⟩⟩
  have hN : lane_New (Int.tmod (IntKind.i64.wrap a2) 20) = some (qS w 1 [] [] (its m w a3 0)) := by rw [hw]; rfl
  rw [cond_false, hN, Option.bind_some, h1, h2]
  show law16_LaneQuotas_j0 a1 a0 a2 a3 (qS w 4 t2 u2 (its m w a3 (3 * m))) = _
  unfold law16_LaneQuotas_j0
  rw [hq, hK]
  have hk : (bif decide ((K : Int) > (q : Int)) then some (q : Int) else some (K : Int)) = some (m : Int) := by
    by_cases h : K > q
    · rw [show decide ((K : Int) > (q : Int)) = true by simp; omega, cond_true, hm, Nat.min_eq_right (by omega)]
    · rw [show decide ((K : Int) > (q : Int)) = false by simp; omega, cond_false, hm, Nat.min_eq_left (by omega)]
  rw [hk, Option.bind_some]
  unfold law16_LaneQuotas_j5
  have m8 : m < 8 := by omega
  have hL6 := flt_loop (body := law16_LaneQuotas_l6 (qS w 4 t2 u2 (its m w a3 (3 * m)))) (its m w a3 (3 * m)) (fun x => x.To == (1:Int)) (by rw [its_len]; omega) fun s => rfl
  have hL7 := flt_loop (body := law16_LaneQuotas_l7 (qS w 4 t2 u2 (its m w a3 (3 * m)))) (its m w a3 (3 * m)) (fun x => x.To == (0:Int)) (by rw [its_len]; omega) fun s => rfl
  rw [its_all] at hL6
  rw [its_none] at hL7
  rw [hL6, Option.bind_some, its_len]
  have b1 : ((((3 * m : Nat) : Int)) != IntKind.i64.wrap ((3:Int) * (m : Int))) = false := by
    rw [show IntKind.i64.wrap ((3:Int) * (m : Int)) = ((3 * m : Nat) : Int) from by rw [wrap_i64] <;> omega]; simp
  rw [b1, cond_false, hL7, Option.bind_some]
  have b2 : (((([] : List api_Item).length : Nat) : Int) != (0:Int)) = false := rfl
  rw [b2, cond_false]
  have hend : ∀ (hl : (its m w a3 (3 * m)).length = 3 * m), law16_LaneQuotas_l8 (its m w a3 (3 * m)) (m : Int) a2 a3 ((3 * m : Nat) : Int) = some (.inr true) := fun hl => by
    have e1 : decide (((3 * m : Nat) : Int) < (((its m w a3 (3 * m)).length : Nat) : Int)) = false := by rw [hl]; simp
    simp only [law16_LaneQuotas_l8, e1, cond_false, inrO, Option.map_some]
  refine loop_range (fun i => (i : Int)) (3 * m) true (fun i hi => ?_) (hend (its_len ..))
  have hi' : i < (its m w a3 (3 * m)).length := by rw [its_len]; exact hi
  have hget : (its m w a3 (3 * m))[i] = itm m w a3 i := by simp [its]
  have hpad := refpad_eq { At := 0, Del := false, Val := a3 } (n := (w : Int)) (by omega)
  simp only [Bool.false_eq_true, if_false, Int.toNat_natCast] at hpad
  have c1 : ((itm m w a3 i).N != IntKind.u64.wrap (IntKind.i64.wrap ((i : Int) + (1:Int)))) = false := by
    rw [wrap_succ (by omega), show IntKind.u64.wrap ((i + 1 : Nat) : Int) = ((i + 1 : Nat) : Int) from by rw [wrap_u64_eq]; omega]; simp [itm]
  have c2 : (!((m : Int) == (0:Int))) = true := by simp; omega
  have hdm : i / m ≤ i := Nat.div_le_self _ _
  have c3 : ((itm m w a3 i).Epoch != IntKind.u64.wrap (IntKind.i64.wrap ((IntKind.i64.wrap (Int.tdiv (i : Int) (m : Int))) + (1:Int)))) = false := by
    rw [show Int.tdiv (i : Int) (m : Int) = ((i / m : Nat) : Int) from rfl, show (itm m w a3 i).Epoch = ((i / m + 1 : Nat) : Int) from rfl]
    generalize i / m = d at hdm ⊢
    rw [show IntKind.i64.wrap (d : Int) = (d : Int) from by rw [wrap_i64] <;> omega, wrap_succ (by omega), show IntKind.u64.wrap ((d + 1 : Nat) : Int) = ((d + 1 : Nat) : Int) from by rw [wrap_u64_eq]; omega]
    simp
  have c4 : ((((itm m w a3 i).W.Val).length : Int) != (w : Int)) = false := by simp [itm, padV]
  simp only [law16_LaneQuotas_l8, lt_t hi', cond_true, geto_lt hi', hget, Option.bind_some, c1, cond_false, gd_true c2, c3, hw, c4, hpad]
  rw [show (itm m w a3 i).W.Val = padV w a3 from rfl, toStr_refl, wrap_succ (show i ≤ 4294967295 by omega)]
  rfl
end Go.Proofs.YtgnkkopjkgdieaaGreat
