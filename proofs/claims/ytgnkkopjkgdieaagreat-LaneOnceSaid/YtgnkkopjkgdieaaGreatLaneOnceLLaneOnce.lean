/- A transaction is decided once: the plain law. -/
import Derived.Test.YtgnkkopjkgdieaaGreatLaneOnceLnA
import Derived.Test.YtgnkkopjkgdieaaGreatLaneOnceSesJ
import Derived.Test.YtgnkkopjkgdieaaGreatLaneOnceA
set_option linter.unusedVariables false
set_option linter.unusedSimpArgs false
set_option maxRecDepth 100000
namespace Go.Proofs.YtgnkkopjkgdieaaGreat
open Go Go.V
def lnS (w e : Int) (t : List session_row) (d : List api_Decision) : lane_State := { wide := w, epoch := e, store := some { rows := [] }, locks := some { l := [] }, last := some { l := t }, book := some { l := [] }, open_ := d, out := [], used := [] }
def cmdR (i : api_ID) (r : api_Reply) (ep sh : Int) : api_Command := { Kind := 4, ID := i, Epoch := ep, Index := 0, E := 0, Hold := zero_api_Hold, Writes := [], R := r, Shards := sh, Parts := [], Rule := zero_api_Rule, On := false }
def resR (r : api_Reply) (ep i : Int) : api_Reply := if r.E = 0 ∧ ep ≠ 1 then { E := 9, Epoch := ep, Index := i, Gots := [], Scans := [] } else { E := r.E, Epoch := ep, Index := i, Gots := r.Gots, Scans := r.Scans }
theorem ln_find0 (s : lane_State) (hs : s.open_ = []) (i : api_ID) : lane_State_find (some s) i = some (0, false) := by
  have h : loopO (lane_State_find_l1 s i) (((s.open_).length : Int), (0:Int)) = some 0 := by
    rw [loopO_eq, hs]; rfl
  unfold lane_State_find
  dsimp only
  rw [h, Option.bind_some]
  simp only [lane_State_find_j0, hs]
  rfl
theorem or_00 : cmp_Or_int [0, 0] = some 0 := by
  refine loop_range (body := cmp_Or_int_l0 [0, 0]) (fun i => (i : Int)) 2 0 (fun i hi => ?_) rfl
  have : i = 0 ∨ i = 1 := by omega
  rcases this with rfl | rfl <;> rfl
theorem find_self (d : api_Decision) : lane_State_find_1 d d.ID = some 0 := by
  have h : ∀ a : Int, cmp_Compare_uint64 a a = some 0 := fun a => by rw [cmp_u64]; simp
  simp only [lane_State_find_1, h, Option.bind_some, or_00]
theorem ln_find1 (s : lane_State) (d : api_Decision) (hs : s.open_ = [d]) : lane_State_find (some s) d.ID = some (0, true) := by
  have g0 : geto [d] (0:Int) = some d := rfl
  have h : loopO (lane_State_find_l1 s d.ID) (((s.open_).length : Int), (0:Int)) = some 0 := by
    rw [hs]
    refine loop_range (fun i : Nat => ((if i = 0 then ((([d] : List api_Decision).length : Nat) : Int) else 0), (0:Int))) 1 0 (fun i hi => ?_) rfl
    have : i = 0 := by omega
    subst this
    have e1 : IntKind.i64.wrap (iShr .u64 (IntKind.u64.wrap (IntKind.i64.wrap ((0:Int) + ((([d] : List api_Decision).length : Nat) : Int)))) (1:Int)) = 0 := mid_eq (i := 0) (j := 1) (by omega)
    have e2 : decide ((0:Int) < ((([d] : List api_Decision).length : Nat) : Int)) = true := by simp
    simp only [lane_State_find_l1, if_true, hs, e1, e2, cond_true, g0, Option.bind_some, find_self]
    rfl
  unfold lane_State_find
  dsimp only
  rw [h, Option.bind_some]
  have e2 : decide ((0:Int) < ((([d] : List api_Decision).length : Nat) : Int)) = true := by simp
  simp only [lane_State_find_j0, hs, e2, cond_true, g0, Option.bind_some, find_self]
  rfl
theorem ap_dec (s : lane_State) (n : Int) (i : api_ID) (r : api_Reply) (ep sh : Int) : lane_State_Apply (some s) n (cmdR i r ep sh) = (lane_State_decide (some s) n (cmdR i r ep sh)).bind fun t => match t.2 with | none => none | some y => some (t.1, some y) := rfl
theorem dec_way {i : api_ID} {ep n : Int} {r : api_Reply} {t : List session_row} {d : List api_Decision} (hS : i.Session < 9223372036854775808) {X : Option (api_Effect × Option lane_State)}
    (h1 : r.E = 0 → ep ≠ 1 → lane_State_decide_j1 (lnS 0 1 t d) (cmdR i r ep 3) n () = X) (h3 : r.E = 0 → ep = 1 → lane_State_decide_j3 (lnS 0 1 t d) (cmdR i r ep 3) n () = X) (h5 : r.E ≠ 0 → lane_State_decide_j5 (lnS 0 1 t d) (cmdR i r ep 3) n () = X) :
    lane_State_decide (some (lnS 0 1 t d)) n (cmdR i r ep 3) = X := by
  have dS : decide (i.Session ≥ 9223372036854775808) = false := by simp; omega
  show (bif r.E == 0 then (bif ep != 1 then (joinO (bif ((9:Int) != (0:Int)) then (bif decide (i.Session ≥ 9223372036854775808) then _ else some (Sum.inl ())) else some (Sum.inl ())) (lane_State_decide_j1 (lnS 0 1 t d) (cmdR i r ep 3) n)) else (joinO (bif r.E != 0 then (bif decide (i.Session ≥ 9223372036854775808) then _ else some (Sum.inl ())) else some (Sum.inl ())) (lane_State_decide_j3 (lnS 0 1 t d) (cmdR i r ep 3) n))) else (joinO (bif r.E != 0 then (bif decide (i.Session ≥ 9223372036854775808) then _ else some (Sum.inl ())) else some (Sum.inl ())) (lane_State_decide_j5 (lnS 0 1 t d) (cmdR i r ep 3) n))) = X
  rw [dS]
  by_cases hE : r.E = 0
  · have b1 : (r.E == 0) = true := by simpa using hE
    have b2 : (r.E != 0) = false := by simpa using hE
    rw [b1, b2]
    by_cases hp : ep = 1
    · have b3 : (ep != 1) = false := by simpa using hp
      rw [b3]; exact h3 hE hp
    · have b3 : (ep != 1) = true := by simpa using hp
      rw [b3]; exact h1 hE hp
  · have b1 : (r.E == 0) = false := by simpa using hE
    have b2 : (r.E != 0) = true := by simpa using hE
    rw [b1, b2]; exact h5 hE
def dOf (i : api_ID) (E ep n : Int) : api_Decision := { ID := i, E := E, Epoch := ep, Index := n, Shards := 3, Parts := [] }
theorem dec_ok {i : api_ID} {ep n : Int} {r : api_Reply} {t t' : List session_row} (hS : i.Session < 9223372036854775808) (hp : session_Table_Put (some { l := t }) i.Session i.Seq (resR r ep n) = some (0, some { l := t' })) :
    lane_State_Apply (some (lnS 0 1 t [])) n (cmdR i r ep 3) = some ({ Kind := 4, ID := i, R := resR r ep n }, some (lnS 0 1 t' [dOf i (resR r ep n).E ep n])) := by
  have b0 : ((0:Int) != (0:Int)) = false := rfl
  have b3 : ((3:Int) != (0:Int)) = true := rfl
  have b9 : ((9:Int) == (0:Int)) = false := rfl
  have hc : slices_Clone_api_Part_api_Part [] = some [] := gd_true (room_le (by simp))
  have hw := dec_way (n := n) (t := t) (d := []) (r := r) (ep := ep) hS (X := some ({ Kind := 4, ID := i, R := resR r ep n }, some (lnS 0 1 t' [dOf i (resR r ep n).E ep n]))) (fun hE he => by
    have hr : resR r ep n = { E := 9, Epoch := ep, Index := n, Gots := [], Scans := [] } := if_pos ⟨hE, he⟩
    rw [hr] at hp ⊢
    unfold lane_State_decide_j1
    simp only [lnS, cmdR]
    rw [hp, Option.bind_some]
    simp only [b0, cond_false, b3, cond_true, b9, hc, Option.bind_some]
    rw [ln_find0 _ rfl, Option.bind_some]
    simp only [slices_Insert_api_Decision_api_Decision]
    rw [gd_true (by simp [insOK, room]), Option.bind_some]
    rfl) (fun hE he => by
    have hr : resR r ep n = { E := r.E, Epoch := ep, Index := n, Gots := r.Gots, Scans := r.Scans } := if_neg fun h => h.2 he
    rw [hr] at hp ⊢
    unfold lane_State_decide_j3
    simp only [lnS, cmdR]
    rw [hp, Option.bind_some]
    simp only [b0, cond_false, b3, cond_true, b9, hc, Option.bind_some]
    rw [ln_find0 _ rfl, Option.bind_some]
    simp only [slices_Insert_api_Decision_api_Decision]
    rw [gd_true (by simp [insOK, room]), Option.bind_some]
    rfl) (fun hE => by
    have hr : resR r ep n = { E := r.E, Epoch := ep, Index := n, Gots := r.Gots, Scans := r.Scans } := if_neg fun h => hE h.1
    rw [hr] at hp ⊢
    unfold lane_State_decide_j5
    simp only [lnS, cmdR]
    rw [hp, Option.bind_some]
    simp only [b0, cond_false, b3, cond_true, b9, hc, Option.bind_some]
    rw [ln_find0 _ rfl, Option.bind_some]
    simp only [slices_Insert_api_Decision_api_Decision]
    rw [gd_true (by simp [insOK, room]), Option.bind_some]
    rfl)
  rw [ap_dec, hw, Option.bind_some]
theorem dec_no {i : api_ID} {ep n : Int} {r : api_Reply} {t : List session_row} {d : List api_Decision} (hS : i.Session < 9223372036854775808) (hp : ∀ x, session_Table_Put (some { l := t }) i.Session i.Seq x = some (10, some { l := t })) (hl : session_Table_Last (some { l := t }) i.Session = some i.Seq) :
    lane_State_Apply (some (lnS 0 1 t d)) n (cmdR i r ep 3) = some (zero_api_Effect, some (lnS 0 1 t d)) := by
  have b0 : ((10:Int) != (0:Int)) = true := rfl
  have dq : decide (i.Seq ≤ i.Seq) = true := by simp
  have hlate : lane_State_late (some (lnS 0 1 t d)) i = some zero_api_Effect := by
    simp only [lane_State_late, lnS, hl, Option.bind_some, dq, cond_true]
  have hw := dec_way (n := n) (t := t) (d := d) (r := r) (ep := ep) hS (X := some (zero_api_Effect, some (lnS 0 1 t d))) (fun _ _ => by
    unfold lane_State_decide_j1
    rw [show (lnS 0 1 t d).last = some { l := t } from rfl, show (cmdR i r ep 3).ID = i from rfl, hp, Option.bind_some]
    simp only [b0, cond_true]
    show (lane_State_late (some (lnS 0 1 t d)) i).bind _ = _
    rw [hlate]; rfl) (fun _ _ => by
    unfold lane_State_decide_j3
    rw [show (lnS 0 1 t d).last = some { l := t } from rfl, show (cmdR i r ep 3).ID = i from rfl, hp, Option.bind_some]
    simp only [b0, cond_true]
    show (lane_State_late (some (lnS 0 1 t d)) i).bind _ = _
    rw [hlate]; rfl) (fun _ => by
    unfold lane_State_decide_j5
    rw [show (lnS 0 1 t d).last = some { l := t } from rfl, show (cmdR i r ep 3).ID = i from rfl, hp, Option.bind_some]
    simp only [b0, cond_true]
    show (lane_State_late (some (lnS 0 1 t d)) i).bind _ = _
    rw [hlate]; rfl)
  rw [ap_dec, hw, Option.bind_some]
theorem opened1 (t : List session_row) (d : api_Decision) : lane_State_Opened (some (lnS 0 1 t [d])) d.ID = some (d, true) := by
  unfold lane_State_Opened
  dsimp only
  rw [ln_find1 _ d rfl, Option.bind_some]
  rfl
theorem opened0 (t : List session_row) (i : api_ID) : lane_State_Opened (some (lnS 0 1 t [])) i = some (zero_api_Decision, false) := by
  unfold lane_State_Opened
  dsimp only
  rw [ln_find0 _ rfl, Option.bind_some]
  rfl
theorem forget1 (t : List session_row) (d : api_Decision) (n : Int) : lane_State_Apply (some (lnS 0 1 t [d])) n { Kind := 5, ID := d.ID, Epoch := 0, Index := 0, E := 0, Hold := zero_api_Hold, Writes := [], R := zero_api_Reply, Shards := 0, Parts := [], Rule := zero_api_Rule, On := false } = some (zero_api_Effect, some (lnS 0 1 t [])) := by
  show (lane_State_find (some (lnS 0 1 t [d])) d.ID).bind _ = _
  rw [ln_find1 _ d rfl, Option.bind_some]
  rfl
theorem of_small : TP (fun t => ref12_Tape_Of t) (fun i => 0 ≤ i.Session ∧ i.Session < 4 ∧ 1 ≤ i.Seq ∧ i.Seq < 5) := by
  refine TP.bind (TP.next 4) fun a ha => ?_
  dsimp only
  refine TP.bind (TP.next 4) fun b hb => ?_
  dsimp only
  refine TP.ret ?_
  dsimp only
  have e1 : IntKind.u64.wrap a = a := by rw [wrap_u64] <;> omega
  have e2 : IntKind.i64.wrap ((1:Int) + b) = 1 + b := by rw [wrap_i64] <;> omega
  have e3 : IntKind.u64.wrap (1 + b) = 1 + b := by rw [wrap_u64] <;> omega
  rw [e1, e2, e3]
  omega
theorem laneOnce_plain {a0 : List Int} {a1 : Int} (o0 : a0.length ≤ maxLen ∧ ∀ x ∈ a0, (Lit.int .u8 x).wf = true) (o1 : (Lit.int .u8 a1).wf = true) : law16_LaneOnce a0 a1 = some true := by
  unfold law16_LaneOnce
  simp only [ln_awake, Option.bind_some, Bool.not_true, cond_false]
  cases h0 : decide ((a0.length : Int) > (100:Int)) with
  | true => rfl
  | false =>
  have l0 : a0.length ≤ 100 := by have := of_decide_eq_false h0; omega
  obtain ⟨i, t1, ei, ⟨i1, i2, i3, i4⟩, ht1⟩ := of_small { L := a0, I := 0 } ⟨Int.le_refl _, by dsimp only; omega, fun x hx => lit_u8.1 (o0.2 x hx)⟩
  obtain ⟨r, t2, er, hr, ht2⟩ := TP.replyS t1 ht1
  obtain ⟨r', t3, er', hr', ht3⟩ := TP.replyS t2 ht2
  have hu := lit_u8.1 o1
  have hm : Int.tmod a1 2 = a1 % 2 := Int.tmod_eq_emod_of_nonneg hu.1
  have hep : IntKind.u64.wrap ((1:Int) + IntKind.u64.wrap (a1 % 2)) = 1 + a1 % 2 := by rw [wrap_u64_eq, wrap_u64_eq]; omega
  have hN : lane_New 0 = some (lnS 0 1 [] []) := rfl
  simp only [cond_false, hN, Option.bind_some, ei, er, hm, hep]
  obtain ⟨ep, hepe⟩ : ∃ ep, ep = 1 + a1 % 2 := ⟨_, rfl⟩
  obtain ⟨R, hR⟩ : ∃ R, R = resR r ep 7 := ⟨_, rfl⟩
  have hp := put_eq (l := []) rise_nil (by simp) i.Session i.Seq R (by omega)
  rw [if_neg (show ¬ i.Seq = 0 by omega), if_neg (show ¬ seqOf i.Session [] ≥ i.Seq from by show ¬ (0:Int) ≥ i.Seq; omega)] at hp
  obtain ⟨T, hT⟩ : ∃ T, T = putL [] (rw_ i.Session i.Seq R) := ⟨_, rfl⟩
  rw [← hT] at hp
  have rT : Rise T := by rw [hT]; exact putL_rise rise_nil _
  have nT : T.length ≤ 1 := by rw [hT]; have := putL_len rise_nil (rw_ i.Session i.Seq R); simpa using this
  have kT : look i.Session T = some (rw_ i.Session i.Seq R) := by
    rw [hT, look_put rise_nil, if_pos (show i.Session = (rw_ i.Session i.Seq R).session from rfl)]
  have sT : seqOf i.Session T = i.Seq := by unfold seqOf; rw [kT]; rfl
  have hno : ∀ x, session_Table_Put (some { l := T }) i.Session i.Seq x = some (10, some { l := T }) := fun x => by
    rw [put_eq rT (by omega) i.Session i.Seq x (by omega), if_neg (show ¬ i.Seq = 0 by omega), if_pos (show seqOf i.Session T ≥ i.Seq by omega)]
  have hlast : session_Table_Last (some { l := T }) i.Session = some i.Seq := by rw [last_eq rT (by omega), sT]
  have hget : session_Table_Get (some { l := T }) i.Session i.Seq = some (R, 0) := by
    rw [get_eq rT (by omega), kT]
    show some (if i.Seq < i.Seq then _ else if i.Seq > i.Seq then _ else (R, (0:Int))) = _
    rw [if_neg (by omega), if_neg (by omega)]
  have hS : i.Session < 9223372036854775808 := by omega
  have ha := dec_ok (i := i) (ep := ep) (n := 7) (r := r) (t := []) (t' := T) hS (by rw [← hR]; exact hp)
  rw [← hR] at ha
  obtain ⟨D, hD⟩ : ∃ D, D = dOf i R.E ep 7 := ⟨_, rfl⟩
  rw [← hD] at ha
  have hid : D.ID = i := by rw [hD]; rfl
  have hb := dec_no (i := i) (ep := ep) (n := 8) (r := r') (t := T) (d := [D]) hS hno hlast
  have hd := dec_no (i := i) (ep := ep) (n := 10) (r := r') (t := T) (d := []) hS hno hlast
  have hop := opened1 T D
  have hfo := forget1 T D 9
  rw [hid] at hop hfo
  have han : lane_State_Answer (some (lnS 0 1 T [D])) i = some (R, 0) := by
    simp only [lane_State_Answer, lnS, hget, Option.bind_some]
  have hok : okR R := by
    obtain ⟨⟨⟨_, _, _, g4, g5, g6, g7⟩, _⟩, _⟩ := hr
    rw [hR]; unfold resR
    split
    · exact ⟨by simp, by simp, fun l hl => (by cases hl)⟩
    · exact ⟨by show r.Gots.length ≤ _; omega, by show r.Scans.length ≤ _; omega, fun l hl => ⟨by have := (g5 l hl).1; omega, fun p hp => ((g5 l hl).2 p hp).1⟩⟩
  have hself := self_reply hok
  have er2 : ref13_OfReply t2 = some (r', t3) := er'
  unfold cmdR at ha hb hd
  rw [← hepe, ha, Option.bind_some]
  dsimp only
  rw [er2, Option.bind_some]
  dsimp only
  rw [hb, Option.bind_some]
  dsimp only
  rw [hop, Option.bind_some, han, Option.bind_some, hfo, Option.bind_some]
  dsimp only
  rw [opened0, Option.bind_some, hd, Option.bind_some]
  dsimp only
  have hw : (bif r.E == (0:Int) then (bif a1 % 2 == (1:Int) then some ((9:Int), (2:Int), ([] : List api_Got), ([] : List (List api_Pair))) else some (r.E, ep, r.Gots, r.Scans)) else some (r.E, ep, r.Gots, r.Scans)) = some (R.E, R.Epoch, R.Gots, R.Scans) := by
    rw [hR]; unfold resR
    by_cases hE : r.E = 0
    · have b1 : (r.E == (0:Int)) = true := by simpa using hE
      rw [b1, cond_true]
      by_cases h1 : a1 % 2 = 1
      · have b2 : (a1 % 2 == (1:Int)) = true := by simpa using h1
        rw [b2, cond_true, if_pos ⟨hE, by omega⟩, hepe, h1]; rfl
      · have b2 : (a1 % 2 == (1:Int)) = false := by simpa using h1
        rw [b2, cond_false, if_neg fun h => h.2 (by omega)]
    · have b1 : (r.E == (0:Int)) = false := by simpa using hE
      rw [b1, cond_false, if_neg fun h => hE h.1]
  rw [hw, Option.bind_some]
  have hI : R.Index = 7 := by rw [hR]; unfold resR; split <;> rfl
  have heta : ({ E := R.E, Epoch := R.Epoch, Index := 7, Gots := R.Gots, Scans := R.Scans } : api_Reply) = R := by rw [← hI]
  simp only [law16_LaneOnce_j0, heta, hself, Option.bind_some, cond_true]
  have c1 : (D.E == R.E) = true := by rw [hD]; simp [dOf]
  have c2 : (D.Index == (7:Int)) = true := by rw [hD]; rfl
  rw [c1, c2]
  rfl
end Go.Proofs.YtgnkkopjkgdieaaGreat
