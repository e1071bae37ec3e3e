/- The table of holds, and the document's list of them; plainly. -/
import Derived.Test.YtgnkkopjkgdieaaGreatLaneReadsLkM
set_option linter.unusedVariables false
set_option linter.unusedSimpArgs false
set_option maxRecDepth 100000
namespace Go.Proofs.YtgnkkopjkgdieaaGreat
open Go Go.V
def idk (i : api_ID) : Int := i.Session * 18446744073709551616 + i.Seq
def kid (h : api_Hold) : Int := idk h.ID
theorem idG_b {i : api_ID} (h : idG i) : 0 ≤ i.Session ∧ i.Session < 18446744073709551616 ∧ 0 ≤ i.Seq ∧ i.Seq < 18446744073709551616 := by
  obtain ⟨⟨a, b⟩, c, d⟩ := h
  rw [pw8] at b d
  exact ⟨a, by omega, c, by omega⟩
theorem holdG.id {h : api_Hold} (g : holdG h) : idG h.ID := ⟨g.1, g.2.1⟩
theorem idk_eq {a b : api_ID} (ha : idG a) (hb : idG b) : idk a = idk b ↔ a = b := by
  have h1 := idG_b ha
  have h2 := idG_b hb
  unfold idk
  constructor
  · intro h
    cases a; cases b
    simp only [api_ID.mk.injEq] at h1 h2 h ⊢
    omega
  · rintro rfl; rfl
theorem idk_lt {a b : api_ID} (ha : idG a) (hb : idG b) : idk a < idk b ↔ a.Session < b.Session ∨ (a.Session = b.Session ∧ a.Seq < b.Seq) := by
  have h1 := idG_b ha
  have h2 := idG_b hb
  unfold idk
  omega
theorem same_id {a b : api_ID} (ha : idG a) (hb : idG b) : ((a.Session == b.Session) && (a.Seq == b.Seq)) = (idk a == idk b) := by
  rw [Bool.eq_iff_iff]
  simp only [Bool.and_eq_true, beq_iff_eq, idk_eq ha hb]
  cases a; cases b; simp
def sg (a b : Int) : Int := if a < b then -1 else if a > b then 1 else 0
theorem cmp_u64 (a b : Int) : cmp_Compare_uint64 a b = some (sg a b) := by
  have h1 : (a != a) = false := by simp
  have h2 : (b != b) = false := by simp
  simp only [cmp_Compare_uint64, cmp_isNaN_uint64, Option.bind_some, h1, h2, cond_false, sg]
  by_cases h : a < b
  · simp [h]
  · by_cases h' : a > b
    · simp [h, h']
    · simp [h, h']
theorem or_two (a b : Int) : cmp_Or_int [a, b] = some (if a = 0 then b else a) := by
  have h := loop_find (body := cmp_Or_int_l0 [a, b]) [a, b] (fun x => x != 0) (fun x => x) 0 (fun i hi => by
    simp only [cmp_Or_int_l0, lt_t hi, cond_true, geto_lt hi, Option.bind_some, wrap_succ (show i ≤ 4294967295 by simp at hi; omega)]
    cases [a, b][i] != 0 <;> rfl) (by simp [cmp_Or_int_l0, inrO])
  rw [cmp_Or_int, h]
  by_cases h1 : a = 0
  · subst h1
    by_cases h2 : b = 0
    · subst h2; rfl
    · simp [h2]
  · simp [h1]
def cmpI (a b : api_ID) : Int := if sg a.Session b.Session = 0 then sg a.Seq b.Seq else sg a.Session b.Session
theorem compare_eq (x : api_Hold) (i : api_ID) : locks_compare x i = some (cmpI x.ID i) := by
  simp only [locks_compare, cmp_u64, or_two, Option.bind_some, cmpI]
theorem sg_lt {a b : Int} : sg a b < 0 ↔ a < b := by unfold sg; split <;> (try split) <;> omega
theorem sg_z {a b : Int} : sg a b = 0 ↔ a = b := by unfold sg; split <;> (try split) <;> omega
theorem cmpI_lt {a b : api_ID} (ha : idG a) (hb : idG b) : cmpI a b < 0 ↔ idk a < idk b := by
  rw [idk_lt ha hb]
  unfold cmpI
  split
  · rename_i h; rw [sg_z] at h; rw [sg_lt]; omega
  · rename_i h; rw [sg_z] at h; rw [sg_lt]; omega
theorem cmpI_z {a b : api_ID} (ha : idG a) (hb : idG b) : cmpI a b = 0 ↔ idk a = idk b := by
  rw [idk_eq ha hb]
  unfold cmpI
  split
  · rename_i h; rw [sg_z] at h; rw [sg_z]
    cases a; cases b
    simp only [api_ID.mk.injEq] at h ⊢
    omega
  · rename_i h
    have h' := h
    rw [sg_z] at h'
    constructor
    · intro e; exact absurd e h
    · rintro rfl; exact absurd rfl h'
/-- A table that is right. -/
def tabG (l : List api_Hold) : Prop := Rise kid l ∧ l.length ≤ 1000 ∧ ∀ x ∈ l, holdG x
theorem find_eq {l : List api_Hold} (h : tabG l) {i : api_ID} (hi : idG i) : locks_Table_find (some { l := l }) i = some (((pl kid (idk i) l : Nat) : Int), hit kid (idk i) l) := by
  obtain ⟨hr, hn, hg⟩ := h
  have hs : loopO (locks_Table_find_l1 { l := l } i) (((l.length : Nat) : Int), (0:Int)) = some ((lb (lo kid (idk i)) l : Nat) : Int) := by
    refine search_loop (R := Int) l (lo kid (idk i)) (by omega) (hr.ahd (idk i)) (fun a j k hk hij hke hj => ?_) (fun a j hij => ?_)
    · have e1 : decide ((a : Int) < (j : Int)) = true := by simpa using hij
      have e2 := mid_eq (i := a) (j := j) (by omega)
      rw [← hke] at e2
      simp only [locks_Table_find_l1, e1, cond_true, e2, geto_lt hk, Option.bind_some, compare_eq]
      have e4 : decide (cmpI l[k].ID i < 0) = lo kid (idk i) l[k] := by
        unfold lo
        rw [decide_eq_decide]
        exact cmpI_lt (hg _ (List.getElem_mem hk)).id hi
      rw [e4, wrap_succ (show k ≤ 4294967295 by omega)]
      cases lo kid (idk i) l[k] <;> rfl
    · have e1 : decide ((a : Int) < (j : Int)) = false := by simpa using hij
      simp only [locks_Table_find_l1, e1, cond_false, inrO, Option.map_some]
  simp only [locks_Table_find, hs, Option.bind_some, locks_Table_find_j0]
  rw [show lb (lo kid (idk i)) l = pl kid (idk i) l from rfl]
  unfold hit
  by_cases hk : pl kid (idk i) l < l.length
  · rw [lt_t hk, cond_true, geto_lt hk, Option.bind_some]
    simp only [compare_eq, Option.bind_some, List.getElem?_eq_getElem hk]
    congr 2
    rw [Bool.eq_iff_iff]
    simp only [beq_iff_eq]
    exact cmpI_z (hg _ (List.getElem_mem hk)).id hi
  · have e1 : decide (((pl kid (idk i) l : Nat) : Int) < (l.length : Int)) = false := by simpa using hk
    rw [e1, cond_false, List.getElem?_eq_none (by omega)]
    rfl
theorem tabG_put {l : List api_Hold} (h : tabG l) {x : api_Hold} (hx : holdG x) (hn : l.length ≤ 999) : tabG (putL kid l x) := by
  refine ⟨putL_rise h.1 x, by have := putL_len h.1 x; omega, fun y hy => ?_⟩
  rcases (putL_mem h.1 x y).1 hy with rfl | ⟨h1, _⟩
  · exact hx
  · exact h.2.2 y h1
theorem tabG_del {l : List api_Hold} (h : tabG l) (s : Int) : tabG (delL kid s l) := by
  refine ⟨delL_rise h.1 s, by have := delL_len h.1 s; have := h.2.1; omega, fun y hy => ?_⟩
  rw [← filter_rest h.1] at hy
  exact h.2.2 y (List.mem_filter.1 hy).1
/-- Does another one meet it? -/
def bars (h x : api_Hold) : Bool := !(kid x == kid h) && mtB x h
theorem clone_f (l : List Nat) (h : l.length ≤ 1000) : slices_Clone_float64_float64 l = some l := gd_true (room_le (by simp; omega))
theorem clone_s (l : List (Nat × Nat)) (h : l.length ≤ 1000) : slices_Clone_2_float64_2_float64 l = some l := gd_true (room_le (by simp; omega))
theorem clone_b (l : List Int) (h : l.length ≤ 1000) : slices_Clone_byte_byte l = some l := gd_true (room_le (by simp; omega))
theorem take_eq {l : List api_Hold} (h : tabG l) (hn : l.length ≤ 999) {x : api_Hold} (hx : holdG x) : locks_Table_Take (some { l := l }) x = some (if l.any (bars x) then (8, some { l := l }) else (0, some { l := putL kid l x })) := by
  have h1 := loop_any (body := locks_Table_Take_l1 { l := l } x) l (bars x) (Sum.inr ((8:Int), some { l := l })) (Sum.inl ()) (fun i hi => by
    have hg := h.2.2 _ (List.getElem_mem hi)
    simp only [locks_Table_Take_l1, lt_t hi, cond_true, geto_lt hi, Option.bind_some, same_id hg.id hx.id, meet_eq hg hx, wrap_succ (show i ≤ 4294967295 by omega), bars]
    show (bif !(kid l[i] == kid x) then _ else _) = _
    cases kid l[i] == kid x <;> cases mtB l[i] x <;> rfl) (by simp [locks_Table_Take_l1, inrO])
  simp only [locks_Table_Take, h1]
  cases hb : l.any (bars x) with
  | true => rfl
  | false =>
    show locks_Table_Take_j0 x { l := l } () = _
    have hx' := hx
    obtain ⟨_, _, _, _, _, _, l1, l2, l3, l4, _⟩ := hx
    simp only [locks_Table_Take_j0, clone_f x.Gets (by omega), clone_s x.Scans (by omega), clone_f x.Puts (by omega), clone_b x.Data (by omega), Option.bind_some, find_eq h hx'.id]
    rw [show ({ ID := x.ID, Epoch := x.Epoch, Gets := x.Gets, Scans := x.Scans, Puts := x.Puts, Data := x.Data } : api_Hold) = x from rfl, show idk x.ID = kid x from rfl]
    cases hh : hit kid (kid x) l with
    | true =>
      obtain ⟨hk, h3, h4⟩ := look_lt hh
      simp only [cond_true, geto_lt hk, Option.bind_some, Int.toNat_natCast, set_hit hh]; rfl
    | false =>
      simp only [cond_false, slices_Insert_api_Hold_api_Hold, gd_true (insOK_pl (x := x) (kid x) (show l.length ≤ 1073741823 by omega)), Option.bind_some, ins_miss hh]; rfl
theorem get_eq {l : List api_Hold} (h : tabG l) {i : api_ID} (hi : idG i) : locks_Table_Get (some { l := l }) i = some (match rlook kid (idk i) l with | some x => (x, true) | none => (zero_api_Hold, false)) := by
  simp only [locks_Table_Get, find_eq h hi, Option.bind_some]
  cases hh : hit kid (idk i) l with
  | false => simp [rlook, hh]
  | true =>
    obtain ⟨hk, h3, h4⟩ := look_lt hh
    simp only [h4, Bool.not_true, cond_false, geto_lt hk, Option.bind_some]
theorem drop_eq {l : List api_Hold} (h : tabG l) {i : api_ID} (hi : idG i) : locks_Table_Drop (some { l := l }) i = some (hit kid (idk i) l, some { l := delL kid (idk i) l }) := by
  simp only [locks_Table_Drop, find_eq h hi, Option.bind_some]
  cases hh : hit kid (idk i) l with
  | false =>
    have e : delL kid (idk i) l = l := by unfold delL pr; rw [hh, cond_false, List.take_append_drop]
    rw [e]; rfl
  | true =>
    obtain ⟨hk, h3, h4⟩ := look_lt hh
    have hf : fits l ((pl kid (idk i) l : Nat) : Int) ((pl kid (idk i) l + 1 : Nat) : Int) = true := by simp [fits]; omega
    have hn := h.2.1
    rw [cond_true, wrap_succ (show pl kid (idk i) l ≤ 4294967295 by omega), slices_Delete_api_Hold_api_Hold, gd_true hf, Option.bind_some, del_hit hh]
/-! ### The document's list -/
theorem rdrop_eq {m : List api_Hold} (hn : m.length ≤ 1000) (hg : ∀ x ∈ m, holdG x) {i : api_ID} (hi : idG i) : ref11_Drop m i = some (m.filter fun x => kid x != idk i) := by
  have h := loop_fmap (body := ref11_Drop_l0 m i) m (fun x => kid x != idk i) (fun x => x) (fun out => out) (fun a ha out ho => by
    have g := hg _ (List.getElem_mem ha)
    simp only [ref11_Drop_l0, lt_t ha, cond_true, geto_lt ha, Option.bind_some, same_id g.id hi, gd_true (room_one (x := m[a]) (show out.length ≤ 1073741823 by omega)), wrap_succ (show a ≤ 4294967295 by omega)]
    show (bif !(kid m[a] == idk i) then _ else _) = _
    simp only [bne]
    cases kid m[a] == idk i <;> rfl) (fun out _ => by simp [ref11_Drop_l0, inrO])
  rw [ref11_Drop, h, List.map_id']
theorem rtake_eq {m : List api_Hold} (hn : m.length ≤ 999) (hg : ∀ x ∈ m, holdG x) {x : api_Hold} (hx : holdG x) : ref11_Take m x = some (if m.any (bars x) then (m, false) else ((m.filter fun y => kid y != kid x) ++ [x], true)) := by
  have h1 := loop_any (body := ref11_Take_l1 m x) m (bars x) (Sum.inr (m, false)) (Sum.inl ()) (fun i hi => by
    have g := hg _ (List.getElem_mem hi)
    simp only [ref11_Take_l1, lt_t hi, cond_true, geto_lt hi, Option.bind_some, same_id g.id hx.id, meet_req g hx, wrap_succ (show i ≤ 4294967295 by omega), bars]
    show (bif !(kid m[i] == kid x) then _ else _) = _
    cases kid m[i] == kid x <;> cases mtB m[i] x <;> rfl) (by simp [ref11_Take_l1, inrO])
  simp only [ref11_Take, h1]
  cases hb : m.any (bars x) with
  | true => rfl
  | false =>
    show ref11_Take_j0 m x () = _
    have hl := List.length_filter_le (fun y : api_Hold => kid y != idk x.ID) m
    simp only [ref11_Take_j0, rdrop_eq (by omega) hg hx.id, Option.bind_some, gd_true (room_one (x := x) (show (m.filter fun y => kid y != idk x.ID).length ≤ 1073741823 by omega)), ref11_Take_j2]
    rfl
theorem held_eq {m : List api_Hold} (hn : m.length ≤ 1000) (hg : ∀ x ∈ m, holdG x) {i : api_ID} (hi : idG i) : ref11_Held m i = some (match m.find? (fun x => kid x == idk i) with | some x => (x, true) | none => (zero_api_Hold, false)) := by
  have h := loop_find (body := ref11_Held_l0 m i) m (fun x => kid x == idk i) (fun x => (x, true)) (zero_api_Hold, false) (fun a ha => by
    have g := hg _ (List.getElem_mem ha)
    simp only [ref11_Held_l0, lt_t ha, cond_true, geto_lt ha, Option.bind_some, same_id g.id hi, wrap_succ (show a ≤ 4294967295 by omega)]
    show (bif kid m[a] == idk i then _ else _) = _
    cases kid m[a] == idk i <;> rfl) (by simp [ref11_Held_l0, inrO])
  unfold ref11_Held
  rw [h]
  cases m.find? (fun x => kid x == idk i) <;> rfl
theorem find_perm {l m : List api_Hold} (hr : Rise kid l) (hp : l.Perm m) (s : Int) : m.find? (fun x => kid x == s) = rlook kid s l := by
  cases h : m.find? (fun x => kid x == s) with
  | some x =>
    have h1 := List.find?_some h
    have h2 := List.mem_of_find?_eq_some h
    exact ((look_some hr).2 ⟨hp.mem_iff.2 h2, eq_of_beq h1⟩).symm
  | none =>
    refine ((look_none hr).2 fun x hx e => ?_).symm
    have := List.find?_eq_none.1 h x (hp.mem_iff.1 hx)
    simp [e] at this
theorem any_perm {α : Type} {l m : List α} (hp : l.Perm m) (q : α → Bool) : l.any q = m.any q := by
  rw [Bool.eq_iff_iff, List.any_eq_true, List.any_eq_true]
  exact ⟨fun ⟨x, h1, h2⟩ => ⟨x, hp.mem_iff.1 h1, h2⟩, fun ⟨x, h1, h2⟩ => ⟨x, hp.mem_iff.2 h1, h2⟩⟩
theorem tab_nil : tabG [] := ⟨rise_nil, Nat.zero_le _, fun x hx => by cases hx⟩
theorem rel_put {l m : List api_Hold} (h : tabG l) (hp : l.Perm m) (x : api_Hold) : (putL kid l x).Perm ((m.filter fun y => kid y != kid x) ++ [x]) := by
  refine (putL_perm h.1 x).trans ?_
  exact ((hp.filter _).cons x).trans (List.perm_append_comm (l₁ := [x]))
end Go.Proofs.YtgnkkopjkgdieaaGreat
