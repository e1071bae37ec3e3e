/- A lane's store and locks beside the document's lists: what is told, held, and finished; plainly. -/
import Derived.Test.YtgnkkopjkgdieaaGreatLaneReadsLkT
import Derived.Test.YtgnkkopjkgdieaaGreatLaneReadsMxS
import Derived.Test.YtgnkkopjkgdieaaGreatLaneReadsSxR
import Derived.Test.YtgnkkopjkgdieaaGreatLaneReadsLnA
import Derived.Test.YtgnkkopjkgdieaaGreatLaneReadsGv
set_option linter.unusedVariables false
set_option linter.unusedSimpArgs false
set_option maxRecDepth 100000
namespace Go.Proofs.YtgnkkopjkgdieaaGreat
open Go Go.V
theorem filt_t {α : Type} (l : List α) : l.filter (fun _ => true) = l := List.filter_eq_self.2 fun _ _ => rfl
/-! ### What is told -/
noncomputable def toldR (rows : List mvcc_row) (h : api_Hold) : api_Reply := { E := 0, Epoch := 0, Index := 0, Gots := h.Gets.map fun x => (mvcc_Store_Get (some { rows := rows }) x 18446744073709551615).getD { Has := false, Val := [] }, Scans := h.Scans.map fun x => (mvcc_Store_Scan (some { rows := rows }) x.1 x.2 18446744073709551615 64).getD [] }
noncomputable def toldM (V : List ref11_Version) (h : api_Hold) : api_Reply := { E := 0, Epoch := 0, Index := 0, Gots := h.Gets.map fun x => (ref11_Get V x 18446744073709551615).getD { Has := false, Val := [] }, Scans := h.Scans.map fun x => (ref11_Scan V x.1 x.2 18446744073709551615 64).getD [] }
structure asks (h : api_Hold) : Prop where
  g : ∀ x ∈ h.Gets, isF x
  s : ∀ x ∈ h.Scans, isF x.1 ∧ isF x.2
  lg : h.Gets.length ≤ 1000
  ls : h.Scans.length ≤ 1000
theorem told_l {s : lane_State} {rows : List mvcc_row} {V : List ref11_Version} {n : Nat} (hs : s.store = some { rows := rows }) (hi : Inv n rows V) (hn : n ≤ 10000) {h : api_Hold} (g : asks h) : lane_State_Told (some s) h = some (toldR rows h) := by
  have l1 := g.lg
  have l2 := g.ls
  have e1 := loop_fmap (body := lane_State_Told_l1 h s) h.Gets (fun _ => true) (fun x => (mvcc_Store_Get (some { rows := rows }) x 18446744073709551615).getD { Has := false, Val := [] }) (fun out => out) (fun i hi' out ho => by
    obtain ⟨o, _, h2, _⟩ := got_same hi hn (g.g _ (List.getElem_mem hi')) 18446744073709551615
    simp only [lane_State_Told_l1, lt_t hi', cond_true, geto_lt hi', Option.bind_some, hs, h2, Option.getD_some]
    rw [gd_true (room_one (by omega)), wrap_succ (show i ≤ 4294967295 by omega)]) (fun out _ => by simp [lane_State_Told_l1, inrO])
  have e2 : ∀ G, loopO (lane_State_Told_l2 h s G) ([], (0:Int)) = some { E := 0, Epoch := 0, Index := 0, Gots := G, Scans := (h.Scans.filter (fun _ => true)).map fun x => (mvcc_Store_Scan (some { rows := rows }) x.1 x.2 18446744073709551615 64).getD [] } := fun G => by
    refine loop_fmap (body := lane_State_Told_l2 h s G) h.Scans (fun _ => true) (fun x => (mvcc_Store_Scan (some { rows := rows }) x.1 x.2 18446744073709551615 64).getD []) (fun out => { E := 0, Epoch := 0, Index := 0, Gots := G, Scans := out }) (fun i hi' out ho => ?_) (fun out _ => by simp [lane_State_Told_l2, inrO])
    have hf := g.s _ (List.getElem_mem hi')
    obtain ⟨P, Q, h2, _, _⟩ := scan_same hi hn hf.1 hf.2 18446744073709551615 64
    simp only [lane_State_Told_l2, lt_t hi', cond_true, geto_lt hi', Option.bind_some, hs, h2, Option.getD_some]
    rw [gd_true (room_one (by omega)), wrap_succ (show i ≤ 4294967295 by omega)]
  unfold lane_State_Told
  dsimp only
  rw [e1, Option.bind_some, lane_State_Told_j0, e2, filt_t, filt_t]
  rfl
theorem told_m {m : ref16_State} {rows : List mvcc_row} {n : Nat} (hi : Inv n rows m.V) (hn : n ≤ 10000) {h : api_Hold} (g : asks h) : ref16_State_Told m h = some (toldM m.V h) := by
  have l1 := g.lg
  have l2 := g.ls
  have e1 := loop_fmap (body := ref16_State_Told_l1 h m) h.Gets (fun _ => true) (fun x => (ref11_Get m.V x 18446744073709551615).getD { Has := false, Val := [] }) (fun out => out) (fun i hi' out ho => by
    obtain ⟨o, _, _, h2⟩ := got_same hi hn (g.g _ (List.getElem_mem hi')) 18446744073709551615
    simp only [ref16_State_Told_l1, lt_t hi', cond_true, geto_lt hi', Option.bind_some, h2, Option.getD_some]
    rw [gd_true (room_one (by omega)), wrap_succ (show i ≤ 4294967295 by omega)]) (fun out _ => by simp [ref16_State_Told_l1, inrO])
  have e2 : ∀ G, loopO (ref16_State_Told_l2 h m G) ([], (0:Int)) = some { E := 0, Epoch := 0, Index := 0, Gots := G, Scans := (h.Scans.filter (fun _ => true)).map fun x => (ref11_Scan m.V x.1 x.2 18446744073709551615 64).getD [] } := fun G => by
    refine loop_fmap (body := ref16_State_Told_l2 h m G) h.Scans (fun _ => true) (fun x => (ref11_Scan m.V x.1 x.2 18446744073709551615 64).getD []) (fun out => { E := 0, Epoch := 0, Index := 0, Gots := G, Scans := out }) (fun i hi' out ho => ?_) (fun out _ => by simp [ref16_State_Told_l2, inrO])
    have hf := g.s _ (List.getElem_mem hi')
    obtain ⟨P, Q, _, h2, _⟩ := scan_same hi hn hf.1 hf.2 18446744073709551615 64
    simp only [ref16_State_Told_l2, lt_t hi', cond_true, geto_lt hi', Option.bind_some, h2, Option.getD_some]
    rw [gd_true (room_one (by omega)), wrap_succ (show i ≤ 4294967295 by omega)]
  unfold ref16_State_Told
  rw [e1, Option.bind_some, ref16_State_Told_j0, e2, filt_t, filt_t]
  rfl
theorem told_same {rows : List mvcc_row} {V : List ref11_Version} {n : Nat} (hi : Inv n rows V) (hn : n ≤ 10000) {h : api_Hold} (g : asks h) : ref11_SameReply (toldR rows h) (toldM V h) = some true := by
  have l1 := g.lg
  have l2 := g.ls
  have eg : (toldR rows h).Gots = (toldM V h).Gots := by
    refine List.map_congr_left fun x hx => ?_
    obtain ⟨o, _, h1, h2⟩ := got_same hi hn (g.g _ hx) 18446744073709551615
    rw [h1, h2]
  have s1 : (toldR rows h).Scans.length = h.Scans.length := List.length_map _
  have s2 : (toldM V h).Scans.length = h.Scans.length := List.length_map _
  have e0 : ∀ x : Int, (x != x) = false := fun x => by simp
  have sg := self_gots (toldM V h).Gots (by show (h.Gets.map _).length ≤ _; rw [List.length_map]; omega)
  unfold ref11_SameReply
  rw [show (toldR rows h).E = 0 from rfl, show (toldM V h).E = 0 from rfl, show (toldR rows h).Epoch = 0 from rfl, show (toldM V h).Epoch = 0 from rfl, show (toldR rows h).Index = 0 from rfl, show (toldM V h).Index = 0 from rfl, eg, s1, s2, sg]
  simp only [e0, cond_false, Option.bind_some, Bool.not_true]
  refine loop_range (fun i => (i : Int)) h.Scans.length true (fun i hi' => ?_) ?_
  · have hf := g.s _ (List.getElem_mem hi')
    obtain ⟨P, Q, h1, h2, h3⟩ := scan_same hi hn hf.1 hf.2 18446744073709551615 64
    have i1 : i < (toldR rows h).Scans.length := by omega
    have i2 : i < (toldM V h).Scans.length := by omega
    have p1 : (toldR rows h).Scans[i] = P := (List.getElem?_eq_some_iff.1 (show (toldR rows h).Scans[i]? = some P by show (h.Scans.map _)[i]? = _; rw [List.getElem?_map, List.getElem?_eq_getElem hi', Option.map_some, h1]; rfl)).2
    have p2 : (toldM V h).Scans[i] = Q := (List.getElem?_eq_some_iff.1 (show (toldM V h).Scans[i]? = some Q by show (h.Scans.map _)[i]? = _; rw [List.getElem?_map, List.getElem?_eq_getElem hi', Option.map_some, h2]; rfl)).2
    simp only [ref11_SameReply_l0, lt_t i1, cond_true, geto_lt i1, geto_lt i2, p1, p2, Option.bind_some, h3, Bool.not_true, cond_false, wrap_succ (show i ≤ 4294967295 by omega)]
  · rw [← s1]
    simp [ref11_SameReply_l0, inrO]
/-! ### What is held -/
noncomputable def holdF (E : Int) (l : List api_Hold) (x : api_Hold) : Int × List api_Hold :=
  match rlook kid (kid x) l with
  | some y => bif tr (cHold y = cHold x) then (0, l) else bif decide (x.ID.Session < 9223372036854775808) then (8, l) else bif decide (x.Epoch ≤ y.Epoch) then (8, l) else bif l.any (bars x) then (8, l) else (0, putL kid l x)
  | none => bif x.Epoch != E then (9, l) else bif l.any (bars x) then (8, l) else (0, putL kid l x)
noncomputable def holdM (E : Int) (H : List api_Hold) (x : api_Hold) : Int × List api_Hold :=
  match H.find? (fun z => kid z == kid x) with
  | some y => bif tr (cHold y = cHold x) then (0, H) else bif decide (x.ID.Session < 9223372036854775808) then (8, H) else bif decide (x.Epoch ≤ y.Epoch) then (8, H) else bif H.any (bars x) then (8, H) else (0, (H.filter fun y => kid y != kid x) ++ [x])
  | none => bif x.Epoch != E then (9, H) else bif H.any (bars x) then (8, H) else (0, (H.filter fun y => kid y != kid x) ++ [x])
def withK (s : lane_State) (l : List api_Hold) : lane_State := { wide := s.wide, epoch := s.epoch, store := s.store, locks := some { l := l }, last := s.last, book := s.book, open_ := s.open_, out := s.out, used := s.used }
def withH (m : ref16_State) (H : List api_Hold) : ref16_State := { Wide := m.Wide, Epoch := m.Epoch, V := m.V, H := H, A := m.A, B := m.B, Open := m.Open, Out := m.Out, Used := m.Used }
theorem withK_id {s : lane_State} {l : List api_Hold} (hs : s.locks = some { l := l }) : withK s l = s := by
  obtain ⟨w, e, st, lk, la, bk, op, o, u⟩ := s
  dsimp only at hs
  subst hs; rfl
theorem take_b {l : List api_Hold} (h : tabG l) (hn : l.length ≤ 999) {x : api_Hold} (hx : holdG x) : locks_Table_Take (some { l := l }) x = some (bif l.any (bars x) then (8, some { l := l }) else (0, some { l := putL kid l x })) := by
  rw [take_eq h hn hx]; cases l.any (bars x) <;> rfl
theorem rtake_b {m : List api_Hold} (hn : m.length ≤ 999) (hg : ∀ x ∈ m, holdG x) {x : api_Hold} (hx : holdG x) : ref11_Take m x = some (bif m.any (bars x) then (m, false) else ((m.filter fun y => kid y != kid x) ++ [x], true)) := by
  rw [rtake_eq hn hg hx]; cases m.any (bars x) <;> rfl
theorem hold_l {s : lane_State} {l : List api_Hold} (hs : s.locks = some { l := l }) (h : tabG l) (hn : l.length ≤ 900) {x : api_Hold} (hx : holdG x) : lane_State_Hold (some s) x = some ((holdF s.epoch l x).1, some (withK s (holdF s.epoch l x).2)) := by
  have hg := get_eq h hx.id
  rw [show idk x.ID = kid x from rfl] at hg
  have ht := take_b h (by omega) hx
  have hj : lane_State_Hold_j1 s x () = some (bif l.any (bars x) then ((8:Int), some (withK s l)) else (0, some (withK s (putL kid l x)))) := by
    unfold lane_State_Hold_j1
    rw [hs, ht, Option.bind_some]
    cases l.any (bars x) <;> rfl
  have hw := withK_id hs
  unfold lane_State_Hold
  dsimp only
  rw [hs, hg, Option.bind_some]
  unfold holdF
  cases e : rlook kid (kid x) l with
  | some y =>
    have hy := h.2.2 y ((look_some h.1).1 e).1
    have hsm := lsame_eq hy hx
    dsimp only
    rw [Option.bind_some]
    show joinO ((locks_Same y x).bind fun t415 => (bif t415 then (inrO (some ((0:Int), (some s)))) else (bif (decide (x.ID.Session < (9223372036854775808:Int))) then (inrO (some ((8:Int), (some s)))) else (bif (decide (x.Epoch ≤ y.Epoch)) then (inrO (some ((8:Int), (some s)))) else (some (Sum.inl ())))))) (lane_State_Hold_j1 s x) = _
    rw [hsm, Option.bind_some]
    cases tr (cHold y = cHold x) with
    | true => show some ((0:Int), some s) = some (0, some (withK s l)); rw [hw]
    | false =>
    cases decide (x.ID.Session < 9223372036854775808) with
    | true => show some ((8:Int), some s) = some (8, some (withK s l)); rw [hw]
    | false =>
    cases decide (x.Epoch ≤ y.Epoch) with
    | true => show some ((8:Int), some s) = some (8, some (withK s l)); rw [hw]
    | false =>
      show lane_State_Hold_j1 s x () = _
      rw [hj]
      cases l.any (bars x) <;> rfl
  | none =>
    dsimp only
    rw [Option.bind_some]
    show joinO (bif x.Epoch != s.epoch then inrO (some ((9:Int), some s)) else some (Sum.inl ())) (lane_State_Hold_j1 s x) = _
    cases x.Epoch != s.epoch with
    | true => show some ((9:Int), some s) = some (9, some (withK s l)); rw [hw]
    | false =>
      show lane_State_Hold_j1 s x () = _
      rw [hj]
      cases l.any (bars x) <;> rfl
theorem hold_m {m : ref16_State} (hn : m.H.length ≤ 900) (hg : ∀ y ∈ m.H, holdG y) {x : api_Hold} (hx : holdG x) : ref16_State_Hold m x = some ((holdM m.Epoch m.H x).1, withH m (holdM m.Epoch m.H x).2) := by
  have hh := held_eq (m := m.H) (by omega) hg hx.id
  rw [show idk x.ID = kid x from rfl] at hh
  have ht := rtake_b (m := m.H) (by omega) hg hx
  have hj : ref16_State_Hold_j3 m x () = some (bif m.H.any (bars x) then ((8:Int), withH m m.H) else (0, withH m ((m.H.filter fun y => kid y != kid x) ++ [x]))) := by
    unfold ref16_State_Hold_j3
    rw [ht, Option.bind_some]
    cases m.H.any (bars x) <;> rfl
  unfold ref16_State_Hold
  rw [hh, Option.bind_some]
  unfold holdM
  cases e : m.H.find? (fun z => kid z == kid x) with
  | some y =>
    have hy := hg y (List.mem_of_find?_eq_some e)
    have hsm := same_hold hy hx
    dsimp only
    rw [Option.bind_some]
    show joinO (((ref11_SameHold y x).bind fun t676 => (bif t676 then (inrO (some ((0:Int), m))) else (some (Sum.inl ()))))) (fun u => joinO (bif (decide (x.ID.Session < (9223372036854775808:Int))) then (inrO (some ((8:Int), m))) else (bif (decide (x.Epoch ≤ y.Epoch)) then (inrO (some ((8:Int), m))) else (some (Sum.inl ())))) (fun u => ref16_State_Hold_j3 m x u)) = _
    rw [hsm, Option.bind_some]
    cases tr (cHold y = cHold x) with
    | true => rfl
    | false =>
    cases decide (x.ID.Session < 9223372036854775808) with
    | true => rfl
    | false =>
    cases decide (x.Epoch ≤ y.Epoch) with
    | true => rfl
    | false =>
      show ref16_State_Hold_j3 m x () = _
      rw [hj]
      cases m.H.any (bars x) <;> rfl
  | none =>
    dsimp only
    rw [Option.bind_some]
    show joinO (bif x.Epoch != m.Epoch then inrO (some ((9:Int), m)) else some (Sum.inl ())) (fun u => ref16_State_Hold_j3 m x u) = _
    cases x.Epoch != m.Epoch with
    | true => rfl
    | false =>
      show ref16_State_Hold_j3 m x () = _
      rw [hj]
      cases m.H.any (bars x) <;> rfl
theorem hold_rel {l H : List api_Hold} (h : tabG l) (hp : l.Perm H) (E : Int) (hn : l.length ≤ 900) {x : api_Hold} (hx : holdG x) : (holdF E l x).1 = (holdM E H x).1 ∧ (holdF E l x).2.Perm (holdM E H x).2 ∧ tabG (holdF E l x).2 ∧ (holdF E l x).2.length ≤ l.length + 1 := by
  have hput := rel_put h hp x
  have tput := tabG_put h hx (by omega)
  have lput := putL_len h.1 x
  unfold holdF holdM
  rw [find_perm h.1 hp, any_perm hp (bars x)]
  cases rlook kid (kid x) l with
  | some y =>
    dsimp only
    cases tr (cHold y = cHold x) with
    | true => exact ⟨rfl, hp, h, Nat.le_succ _⟩
    | false =>
    cases decide (x.ID.Session < 9223372036854775808) with
    | true => exact ⟨rfl, hp, h, Nat.le_succ _⟩
    | false =>
    cases decide (x.Epoch ≤ y.Epoch) with
    | true => exact ⟨rfl, hp, h, Nat.le_succ _⟩
    | false =>
    cases H.any (bars x) with
    | true => exact ⟨rfl, hp, h, Nat.le_succ _⟩
    | false => exact ⟨rfl, hput, tput, lput⟩
  | none =>
    dsimp only
    cases x.Epoch != E with
    | true => exact ⟨rfl, hp, h, Nat.le_succ _⟩
    | false =>
    cases H.any (bars x) with
    | true => exact ⟨rfl, hp, h, Nat.le_succ _⟩
    | false => exact ⟨rfl, hput, tput, lput⟩
/-! ### A hold is proposed -/
/-- Two effects that are one. -/
def sameE (a b : api_Effect) : Prop := a.Kind = b.Kind ∧ a.ID = b.ID ∧ ref11_SameReply a.R b.R = some true
theorem okR_0 (e p i : Int) : okR { E := e, Epoch := p, Index := i, Gots := [], Scans := [] } := ⟨by show (0:Nat) ≤ _; omega, by show (0:Nat) ≤ _; omega, fun l hl => (by cases hl)⟩
theorem ap_prep {s : lane_State} {c : api_Command} (hk : c.Kind = 2) (n : Int) : lane_State_Apply (some s) n c = (lane_State_prepare (some s) c).bind fun t => match t.2 with | none => none | some y => some (t.1, some y) := by
  unfold lane_State_Apply
  dsimp only
  rw [hk]; rfl
theorem ap_fin {s : lane_State} {c : api_Command} (hk : c.Kind = 3) (n : Int) : lane_State_Apply (some s) n c = (lane_State_finish (some s) c).bind fun t => match t.2 with | none => none | some y => some (t.1, some y) := by
  unfold lane_State_Apply
  dsimp only
  rw [hk]; rfl
theorem rap_prep {m : ref16_State} {c : api_Command} (hk : c.Kind = 2) (n : Int) : ref16_State_Apply m n c = (ref16_State_Hold m c.Hold).bind fun t921 => (((bif (t921.1 == (0:Int)) then ((ref16_State_Told t921.2 c.Hold).bind fun t927 => (some ({ Kind := (2:Int), ID := c.Hold.ID, R := t927 } : api_Effect))) else (some ({ Kind := (2:Int), ID := c.Hold.ID, R := zero_api_Reply } : api_Effect)))).bind (ref16_State_Apply_j0 t921)) := by
  unfold ref16_State_Apply
  rw [hk]; rfl
theorem rap_fin {m : ref16_State} {c : api_Command} (hk : c.Kind = 3) (n : Int) : ref16_State_Apply m n c = (((ref11_Held m.H c.ID).bind fun t980 => (some t980.2))).bind (ref16_State_Apply_j1 m c) := by
  unfold ref16_State_Apply
  rw [hk]; rfl
theorem prep_both {s : lane_State} {m : ref16_State} {rows : List mvcc_row} {l : List api_Hold} {k : Nat} (hs : s.store = some { rows := rows }) (hl : s.locks = some { l := l }) (he : s.epoch = m.Epoch) (hi : Inv k rows m.V) (hk : k ≤ 10000) (h : tabG l) (hn : l.length ≤ 900) (hp : l.Perm m.H) {c : api_Command} (hc : c.Kind = 2) (hx : holdG c.Hold) (n : Int) :
    ∃ e e' l' H', lane_State_Apply (some s) n c = some (e, some (withK s l')) ∧ ref16_State_Apply m n c = some (e', withH m H') ∧ sameE e e' ∧ tabG l' ∧ l'.length ≤ l.length + 1 ∧ l'.Perm H' := by
  have hg : ∀ y ∈ m.H, holdG y := fun y hy => h.2.2 y (hp.mem_iff.2 hy)
  have hm : m.H.length = l.length := hp.length_eq.symm
  obtain ⟨r1, r2, r3, r4⟩ := hold_rel h hp m.Epoch hn hx
  have q1 := hold_l hl h hn hx
  have q2 := hold_m (m := m) (by omega) hg hx
  rw [he, r1] at q1
  have gx : asks c.Hold := by
    obtain ⟨_, _, _, g4, g5, g6, l1, l2, _⟩ := hx
    exact ⟨g4, g5, by omega, by omega⟩
  have t1 := told_l (s := withK s (holdF m.Epoch l c.Hold).2) (rows := rows) hs hi hk gx
  have t2 := told_m (m := withH m (holdM m.Epoch m.H c.Hold).2) (rows := rows) hi hk gx
  have ts := told_same hi hk gx
  rw [ap_prep hc, rap_prep hc]
  unfold lane_State_prepare
  rw [q1, q2]
  simp only [Option.bind_some]
  cases hz : (holdM m.Epoch m.H c.Hold).1 == (0:Int) with
  | true =>
    have hz0 := eq_of_beq hz
    rw [t1, t2]
    simp only [cond_true, Option.bind_some]
    refine ⟨_, _, _, _, rfl, rfl, ⟨rfl, rfl, ?_⟩, r3, r4, r2⟩
    show ref11_SameReply (toldR rows c.Hold) { E := (holdM m.Epoch m.H c.Hold).1, Epoch := (toldM m.V c.Hold).Epoch, Index := (toldM m.V c.Hold).Index, Gots := (toldM m.V c.Hold).Gots, Scans := (toldM m.V c.Hold).Scans } = _
    rw [show ({ E := (holdM m.Epoch m.H c.Hold).1, Epoch := (toldM m.V c.Hold).Epoch, Index := (toldM m.V c.Hold).Index, Gots := (toldM m.V c.Hold).Gots, Scans := (toldM m.V c.Hold).Scans } : api_Reply) = toldM m.V c.Hold by rw [hz0]; rfl]
    exact ts
  | false =>
    simp only [cond_false, Option.bind_some]
    exact ⟨_, _, _, _, rfl, rfl, ⟨rfl, rfl, self_reply (okR_0 _ _ _)⟩, r3, r4, r2⟩
/-! ### A hold is finished -/
def verOf (c : api_Command) (w : api_Write) : ref11_Version := { At := w.At, Epoch := c.Epoch, Index := c.Index, Del := w.Del, Val := w.Val }
def putR (c : api_Command) (rows : List mvcc_row) (w : api_Write) : List mvcc_row := putS rows (fRank w.At) (clr (ver (verOf c w)))
def putM (c : api_Command) (V : List ref11_Version) (w : api_Write) : List ref11_Version := V.filter (fun y => notK (ky (tagV (verOf c w))) (tagV y)) ++ [clx (verOf c w)]
theorem puts_inv {n : Nat} {c : api_Command} {V : List ref11_Version} {rows : List mvcc_row} (h : Inv n rows V) : ∀ (ws : List api_Write), (∀ w ∈ ws, xG (verOf c w)) → n + ws.length ≤ 10000 → Inv (n + ws.length) (ws.foldl (putR c) rows) (ws.foldl (putM c) V) := by
  intro ws
  induction ws generalizing n V rows with
  | nil => intro _ _; exact h
  | cons w ws ih =>
    intro hg hn
    rw [List.length_cons] at hn
    have gx := hg w (by simp)
    obtain ⟨_, m', h2, h3⟩ := inv_put h (by omega) gx
    have h4 := refput_eq (fun y hy => (h.xg y hy).1) gx.1 (by have := h.mlen; omega) (fun y hy => (h.xg y hy).2.1) gx.2.1
    rw [h2] at h4
    have h5 := some_inj h4
    rw [h5] at h3
    have := ih (n := n + 1) (rows := putR c rows w) (V := putM c V w) h3 (fun y hy => hg y (by simp [hy])) (by omega)
    rw [List.length_cons, List.foldl_cons, List.foldl_cons]
    rw [show n + (ws.length + 1) = n + 1 + ws.length by omega]
    exact this
theorem puts_mem {c : api_Command} {V : List ref11_Version} : ∀ (ws : List api_Write) {y : ref11_Version}, y ∈ ws.foldl (putM c) V → y ∈ V ∨ (y.Epoch = c.Epoch ∧ y.Index = c.Index) := by
  intro ws
  induction ws generalizing V with
  | nil => intro y hy; exact .inl hy
  | cons w ws ih =>
    intro y hy
    rw [List.foldl_cons] at hy
    rcases ih hy with h | h
    · rcases List.mem_append.1 h with h | h
      · exact .inl (List.mem_filter.1 h).1
      · rw [List.mem_singleton.1 h]; exact .inr ⟨rfl, rfl⟩
    · exact .inr h
theorem foldl_snoc' {α β : Type} (f : β → α → β) (l : List α) {i : Nat} (hi : i < l.length) (b : β) : (l.take (i + 1)).foldl f b = f ((l.take i).foldl f b) l[i] := by
  rw [List.take_succ_eq_append_getElem hi, List.foldl_append]; rfl
def withKS (s : lane_State) (rows : List mvcc_row) (l : List api_Hold) : lane_State := { wide := s.wide, epoch := s.epoch, store := some { rows := rows }, locks := some { l := l }, last := s.last, book := s.book, open_ := s.open_, out := s.out, used := s.used }
def withHV (m : ref16_State) (V : List ref11_Version) (H : List api_Hold) : ref16_State := { Wide := m.Wide, Epoch := m.Epoch, V := V, H := H, A := m.A, B := m.B, Open := m.Open, Out := m.Out, Used := m.Used }
theorem fin_both {s : lane_State} {m : ref16_State} {rows : List mvcc_row} {l : List api_Hold} {k : Nat} (hs : s.store = some { rows := rows }) (hl : s.locks = some { l := l }) (hi : Inv k rows m.V) (h : tabG l) (hp : l.Perm m.H) {c : api_Command} (hc : c.Kind = 3) (hid : idG c.ID) (hw : ∀ w ∈ c.Writes, xG (verOf c w)) (hk : k + c.Writes.length ≤ 10000) (n : Int) :
    ∃ rows' V' l' H', lane_State_Apply (some s) n c = some ({ Kind := 3, ID := c.ID, R := zero_api_Reply }, some (withKS s rows' l')) ∧ ref16_State_Apply m n c = some ({ Kind := 3, ID := c.ID, R := zero_api_Reply }, withHV m V' H') ∧ Inv (k + c.Writes.length) rows' V' ∧ tabG l' ∧ l'.length ≤ l.length ∧ l'.Perm H' ∧ ∀ y ∈ V', y ∈ m.V ∨ (y.Epoch = c.Epoch ∧ y.Index = c.Index) := by
  have hg : ∀ y ∈ m.H, holdG y := fun y hy => h.2.2 y (hp.mem_iff.2 hy)
  have hm : m.H.length = l.length := hp.length_eq.symm
  have hn := h.2.1
  have t' := tabG_del h (idk c.ID)
  have p' : (delL kid (idk c.ID) l).Perm (m.H.filter fun y => kid y != idk c.ID) := by rw [← filter_rest h.1]; exact hp.filter _
  have l' := delL_len h.1 (idk c.ID)
  obtain ⟨w, e3, e4⟩ : ∃ w, ref11_Held m.H c.ID = some w ∧ w.2 = hit kid (idk c.ID) l := ⟨_, held_eq (by omega) hg hid, by
    rw [find_perm h.1 hp, hit_look]
    cases rlook kid (idk c.ID) l <;> rfl⟩
  have d1 := drop_eq h hid
  have d2 := rdrop_eq (m := m.H) (by omega) hg hid
  rw [ap_fin hc, rap_fin hc, e3]
  unfold lane_State_finish
  dsimp only
  rw [hl, d1]
  simp only [Option.bind_some, e4, ref16_State_Apply_j1, d2]
  cases hh : hit kid (idk c.ID) l with
  | false =>
    have hr : loopO (ref16_State_Apply_l3 false c) (({ Wide := m.Wide, Epoch := m.Epoch, V := m.V, H := (m.H.filter fun x => kid x != idk c.ID), A := m.A, B := m.B, Open := m.Open, Out := m.Out, Used := m.Used } : ref16_State), (0:Int)) = some (withHV m m.V (m.H.filter fun x => kid x != idk c.ID)) := by
      rw [loopO_eq]; rfl
    rw [hr]
    refine ⟨rows, m.V, _, _, ?_, rfl, hi.up (Nat.le_add_right _ _), t', l', p', fun y hy => .inl hy⟩
    rw [hs]; rfl
  | true =>
    cases hE : c.E == (0:Int) with
    | false =>
      have hr : loopO (ref16_State_Apply_l3 true c) (({ Wide := m.Wide, Epoch := m.Epoch, V := m.V, H := (m.H.filter fun x => kid x != idk c.ID), A := m.A, B := m.B, Open := m.Open, Out := m.Out, Used := m.Used } : ref16_State), (0:Int)) = some (withHV m m.V (m.H.filter fun x => kid x != idk c.ID)) := by
        rw [loopO_eq]; simp only [ref16_State_Apply_l3, hE]; rfl
      rw [hr]
      refine ⟨rows, m.V, _, _, ?_, rfl, hi.up (Nat.le_add_right _ _), t', l', p', fun y hy => .inl hy⟩
      rw [hs]; rfl
    | true =>
      have hpart : ∀ i, i ≤ c.Writes.length → Inv (k + i) ((c.Writes.take i).foldl (putR c) rows) ((c.Writes.take i).foldl (putM c) m.V) := fun i hi' => by
        have := puts_inv (c := c) hi (c.Writes.take i) (fun w hw' => hw w (List.mem_of_mem_take hw')) (by rw [List.length_take]; omega)
        rw [List.length_take, Nat.min_eq_left hi'] at this
        exact this
      have h1 : loopO (lane_State_finish_l0 c) (withKS s rows (delL kid (idk c.ID) l), (0:Int)) = some ({ Kind := 3, ID := c.ID, R := zero_api_Reply }, some (withKS s (c.Writes.foldl (putR c) rows) (delL kid (idk c.ID) l))) := by
        have := loop_range (body := lane_State_finish_l0 c) (fun i => (withKS s ((c.Writes.take i).foldl (putR c) rows) (delL kid (idk c.ID) l), (i : Int))) c.Writes.length ({ Kind := 3, ID := c.ID, R := zero_api_Reply }, some (withKS s (c.Writes.foldl (putR c) rows) (delL kid (idk c.ID) l))) (fun i hi' => by
          obtain ⟨h2, _⟩ := inv_put (hpart i (by omega)) (by omega) (hw _ (List.getElem_mem hi'))
          have h2 : mvcc_Store_Put (withKS s ((c.Writes.take i).foldl (putR c) rows) (delL kid (idk c.ID) l)).store c.Writes[i].At { Epoch := c.Epoch, Index := c.Index, Del := c.Writes[i].Del, Val := c.Writes[i].Val } = _ := h2
          simp only [lane_State_finish_l0, lt_t hi', cond_true, geto_lt hi', Option.bind_some, h2, wrap_succ (show i ≤ 4294967295 by omega), foldl_snoc' _ _ hi']
          rfl) (by simp [lane_State_finish_l0, inrO])
        simpa using this
      have h3 : loopO (ref16_State_Apply_l3 true c) (withHV m m.V (m.H.filter fun x => kid x != idk c.ID), (0:Int)) = some (withHV m (c.Writes.foldl (putM c) m.V) (m.H.filter fun x => kid x != idk c.ID)) := by
        have := loop_range (body := ref16_State_Apply_l3 true c) (fun i => (withHV m ((c.Writes.take i).foldl (putM c) m.V) (m.H.filter fun x => kid x != idk c.ID), (i : Int))) c.Writes.length (withHV m (c.Writes.foldl (putM c) m.V) (m.H.filter fun x => kid x != idk c.ID)) (fun i hi' => by
          have hI := hpart i (by omega)
          have gx := hw _ (List.getElem_mem hi')
          have h4 := refput_eq (fun y hy => (hI.xg y hy).1) gx.1 (by have := hI.mlen; omega) (fun y hy => (hI.xg y hy).2.1) gx.2.1
          have h4 : ref11_Put (withHV m ((c.Writes.take i).foldl (putM c) m.V) (m.H.filter fun x => kid x != idk c.ID)).V { At := c.Writes[i].At, Epoch := c.Epoch, Index := c.Index, Del := c.Writes[i].Del, Val := c.Writes[i].Val } = _ := h4
          simp only [ref16_State_Apply_l3, hE, lt_t hi', cond_true, geto_lt hi', Option.bind_some, h4, wrap_succ (show i ≤ 4294967295 by omega), foldl_snoc' _ _ hi']
          rfl) (by simp [ref16_State_Apply_l3, inrO, hE])
        simpa using this
      have h3' : loopO (ref16_State_Apply_l3 true c) (({ Wide := m.Wide, Epoch := m.Epoch, V := m.V, H := (m.H.filter fun x => kid x != idk c.ID), A := m.A, B := m.B, Open := m.Open, Out := m.Out, Used := m.Used } : ref16_State), (0:Int)) = some (withHV m (c.Writes.foldl (putM c) m.V) (m.H.filter fun x => kid x != idk c.ID)) := h3
      rw [h3']
      refine ⟨c.Writes.foldl (putR c) rows, _, delL kid (idk c.ID) l, _, ?_, rfl, puts_inv (c := c) hi c.Writes hw hk, t', l', p', fun y hy => puts_mem c.Writes hy⟩
      simp only [cond_true]
      rw [hs]
      rw [show ({ wide := s.wide, epoch := s.epoch, store := some { rows := rows }, locks := some { l := delL kid (idk c.ID) l }, last := s.last, book := s.book, open_ := s.open_, out := s.out, used := s.used } : lane_State) = withKS s rows (delL kid (idk c.ID) l) from rfl, h1]
      rfl
/-- Nothing stands as of an epoch ahead of all versions. -/
theorem scan_none {n : Nat} {rows : List mvcc_row} {V : List ref11_Version} (h : Inv n rows V) (hn : n ≤ 10000) {e : Int} (he : ∀ y ∈ V, e < y.Epoch) {lo hi : Nat} (hlo : isF lo) (hhi : isF hi) (most : Int) : mvcc_Store_Scan (some { rows := rows }) lo hi e most = some [] := by
  have g := h.good
  have hl := g.len
  have hrow : ∀ i (hi' : i < rows.length), mvcc_read rows[i].l e = some { Has := false, Val := [] } := fun i hi' => by
    have hm := List.getElem_mem hi'
    obtain ⟨o, h1, h2⟩ := read_eq e (g.vr _ hm) (g.vg _ hm) (by have := g.vl _ hm; omega) (fun v hv => by
      have := (h.rowg (r := rows[i].rank) (by rw [row_is h.rise hm]; exact hv)).2.1; omega)
    cases o with
    | none => exact h2
    | some v =>
      have hv : (rows[i].rank, v) ∈ flatV rows := flat_mem.2 ⟨_, hm, rfl, h1.1⟩
      obtain ⟨y, hy, e2⟩ := List.mem_map.1 (h.pm.mem_iff.1 hv)
      have h3 : v = ver y := (congrArg Prod.snd e2).symm
      have h4 := he y hy
      have h5 := h1.2.1
      rw [h3] at h5
      have h6 : y.Epoch ≤ e := h5
      omega
  have hk := pl_le rk (fRank lo) rows
  simp only [mvcc_Store_Scan, rank_eq hlo, Option.bind_some, m_find_eq h.rise (show rows.length ≤ 1000000 by omega)]
  have key := loop_inv (body := mvcc_Store_Scan_l0 { rows := rows } hi most e) (fun s => ∃ i : Nat, s = (([] : List api_Pair), (i : Int)) ∧ i ≤ rows.length) (fun s => (rows.length - s.2).toNat) (fun r => r = []) (fun s hs => by
    obtain ⟨i, rfl, hi'⟩ := hs
    by_cases hlt : i < rows.length
    · simp only [mvcc_Store_Scan_l0, lt_t hlt, cond_true, geto_lt hlt, Option.bind_some, rank_eq hhi, hrow i hlt, cond_false, wrap_succ (show i ≤ 4294967295 by omega)]
      cases decide (rows[i].rank ≤ fRank hi) with
      | false => right; exact ⟨[], rfl, rfl⟩
      | true =>
        cases decide ((((([] : List api_Pair).length : Nat) : Int)) < most) with
        | false => right; exact ⟨[], rfl, rfl⟩
        | true => left; exact ⟨_, rfl, ⟨i + 1, rfl, by omega⟩, by dsimp only; omega⟩
    · right
      have e1 : decide ((i : Int) < ((rows.length : Nat) : Int)) = false := by simp; omega
      exact ⟨[], by simp only [mvcc_Store_Scan_l0, e1, cond_false]; rfl, rfl⟩) (s := (([] : List api_Pair), ((pl rk (fRank lo) rows : Nat) : Int))) ⟨_, rfl, hk⟩
  obtain ⟨r, h1, h2⟩ := key
  subst h2
  exact h1
end Go.Proofs.YtgnkkopjkgdieaaGreat
