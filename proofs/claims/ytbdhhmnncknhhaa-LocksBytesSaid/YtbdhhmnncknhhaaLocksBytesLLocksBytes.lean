/- Any hold's bytes, and back; and a table's: the plain law. -/
import Derived.Test.YtbdhhmnncknhhaaLocksBytesLkD
import Derived.Test.YtbdhhmnncknhhaaLocksBytesCodFH
set_option linter.unusedVariables false
set_option linter.unusedSimpArgs false
set_option maxRecDepth 100000
namespace Go.Proofs.Ytbdhhmnncknhhaa
open Go Go.V
theorem bytes_loop {t : ref12_Tape} (ht : tapeOK t) {l0 : List api_Hold} (hG0 : tabG l0) (hl0 : l0.length ≤ 1) : ∃ l, loopO (law12_LocksBytes_l1) (t, ({ l := l0 } : locks_Table), (0:Int)) = some ({ l := l } : locks_Table) ∧ tabG l ∧ l.length ≤ 9 := by
  have h := loop_inv (S := ref12_Tape × locks_Table × Int) (body := law12_LocksBytes_l1) (fun s => tapeOK s.1 ∧ ∃ i : Nat, s.2.2 = (i : Int) ∧ i ≤ 8 ∧ tabG s.2.1.l ∧ s.2.1.l.length ≤ i + 1) (fun s => (8 - s.2.2).toNat) (fun r => tabG r.l ∧ r.l.length ≤ 9) ?_ (s := (t, ({ l := l0 } : locks_Table), (0:Int))) ⟨ht, 0, rfl, by omega, hG0, hl0⟩
  · obtain ⟨r, h1, h2⟩ := h
    exact ⟨r.l, h1, h2⟩
  rintro ⟨t, ⟨l⟩, i'⟩ ⟨ht, i, hi, hi5, hG, hl⟩
  dsimp only at ht hi hG hl
  subst hi
  by_cases hlt : i < 8
  · left
    obtain ⟨x, t1, e1, hx, ht1⟩ := TP.hold t ht
    have ed : decide ((i : Int) < (8:Int)) = true := decide_eq_true (by omega)
    simp only [law12_LocksBytes_l1, ed, cond_true, e1, Option.bind_some, take_eq hG (by omega) hx.1, wrap_succ (show i ≤ 4294967295 by omega)]
    cases hb : l.any (bars x) with
    | true =>
      simp only [if_true]
      exact ⟨_, rfl, ⟨ht1, i + 1, rfl, by omega, hG, by dsimp only; omega⟩, by dsimp only; omega⟩
    | false =>
      have hl2 := putL_len hG.1 x
      simp only [Bool.false_eq_true, if_false]
      exact ⟨_, rfl, ⟨ht1, i + 1, rfl, by omega, tabG_put hG hx.1 (by omega), by dsimp only; omega⟩, by dsimp only; omega⟩
  · right
    have ed : decide ((i : Int) < (8:Int)) = false := decide_eq_false (by omega)
    exact ⟨{ l := l }, by simp only [law12_LocksBytes_l1, ed, cond_false, inrO, Option.map_some], hG, by dsimp only; omega⟩
theorem cHold_c {h : api_Hold} (g : holdG h) : cHold (cHold h) = cHold h := by
  obtain ⟨_, _, _, h4, h5, h6, _⟩ := g
  have e : ∀ x, isF x → cf (cf x) = cf x := fun x hx => (cf_eq (cf_isF x hx) hx).2 (fRank_cf hx)
  have e1 : ∀ l : List Nat, (∀ x ∈ l, isF x) → (l.map cf).map cf = l.map cf := fun l hl => by
    rw [List.map_map]; exact map_eq fun x hx => e x (hl x hx)
  have e2 : (h.Scans.map cSpan).map cSpan = h.Scans.map cSpan := by
    rw [List.map_map]
    exact map_eq fun x hx => by show (cf (cf x.1), cf (cf x.2)) = _; rw [e _ (h5 x hx).1, e _ (h5 x hx).2]; rfl
  simp only [cHold, e1 _ h4, e1 _ h6, e2]
theorem locksBytes_plain {a0 : api_Hold} {a1 : List Int} (o0 : ok_api_Hold a0) (o1 : a1.length ≤ maxLen ∧ ∀ x ∈ a1, (Lit.int .u8 x).wf = true) : law12_LocksBytes a0 a1 = some true := by
  unfold law12_LocksBytes
  simp only [lk_awake, Option.bind_some, Bool.not_true, cond_false, short_eq]
  by_cases s0 : a0.Gets.length ≤ 32 ∧ a0.Scans.length ≤ 32 ∧ a0.Puts.length ≤ 32 ∧ a0.Data.length ≤ 257
  rotate_left
  · rw [tr_f s0]; rfl
  rw [tr_t s0]
  simp only [Bool.not_true, cond_false]
  cases h0 : decide ((a1.length : Int) > (300:Int)) with
  | true => rfl
  | false =>
  have h0 := of_decide_eq_false h0
  have g := holdG_of o0 s0
  have hlen := holdB_len g
  have e1 := lay_hold g.ok [] (by simp only [List.length_nil]; omega)
  have e2 := put_hold g.ok [] (by simp only [List.length_nil]; omega)
  have e3 := (RD.hold g).2 [] U8s.nil (by simp only [List.length_nil]; omega)
  rw [List.nil_append] at e1 e2
  rw [List.append_nil] at e3
  have hsame : ref11_SameHold (cHold a0) a0 = some true := by rw [same_hold (holdG_c g) g, cHold_c g]; exact congrArg some (tr_refl _)
  have ht := take_eq tab_nil (by simp) g
  simp only [List.any_nil, Bool.false_eq_true, if_false] at ht
  have hpl := putL_len (k := kid) rise_nil a0
  simp only [List.length_nil] at hpl
  obtain ⟨l, hl, hG, hl9⟩ := bytes_loop (tape_of o1 (by omega)) (tabG_put tab_nil g (by simp)) (by omega)
  have hgC : ∀ y ∈ l.map cHold, holdG y := fun y hy => by
    obtain ⟨z, hz, rfl⟩ := List.mem_map.1 hy
    exact holdG_c (hG.2.2 z hz)
  have hGc : tabG (l.map cHold) := ⟨rise_c hG.1, by rw [List.length_map]; omega, hgC⟩
  have henc := encode_eqL hG.2.2 (by omega)
  have henc2 := encode_eqL hgC (by rw [List.length_map]; omega)
  rw [tabB_c hG.2.2] at henc2
  have hml : (l.map (·.ID)).length = l.length := List.length_map _
  have hm : loopO (law12_LocksBytes_l3 (l.map (·.ID)) { l := l }) ([], (0:Int)) = some l := by
    have := loop_fmap (body := law12_LocksBytes_l3 (l.map (·.ID)) { l := l }) l (fun _ => true) (fun x => x) (fun out => out) (fun i hi out ho => by
      have hi' : i < (l.map (·.ID)).length := by rw [hml]; exact hi
      have e0 : (l.map (·.ID))[i] = l[i].ID := List.getElem_map _
      have gi := hG.2.2 _ (List.getElem_mem hi)
      have e1 : rlook kid (idk l[i].ID) l = some l[i] := (look_some hG.1).2 ⟨List.getElem_mem hi, rfl⟩
      simp only [law12_LocksBytes_l3, lt_t hi', cond_true, geto_lt hi', e0, Option.bind_some, get_eq hG gi.id, e1, gd_true (room_one (x := l[i]) (show out.length ≤ 1073741823 by omega)), wrap_succ (show i ≤ 4294967295 by omega)]) (fun out _ => by
      have e5 : (l.length : Int) = ((l.map (·.ID)).length : Int) := by rw [hml]
      rw [e5]
      simp only [law12_LocksBytes_l3, lt_f, cond_false]; rfl)
    rw [this, List.filter_eq_self.2 fun _ _ => rfl, List.map_id']
  have htold := told_c hGc hG.2.2 (m := l) (by
    rw [List.map_map]
    have : l.map (cHold ∘ cHold) = l.map cHold := map_eq fun x hx => cHold_c (hG.2.2 x hx)
    rw [this])
  have hfin : law12_LocksBytes_j0 { l := l } = some true := by
    simp only [law12_LocksBytes_j0, henc, dec_encL hG, Option.bind_some, all_eq hG.2.1, hm, law12_LocksBytes_j2, htold, henc2, toStr_refl]
    rfl
  simp only [cond_false, e1, octet_Writer_Done, octet_Read, e3, e2, Option.bind_some, toStr_refl, Bool.not_true, octet_Reader_End, octet_Reader_Bad, Bool.not_false, cond_true, List.length_nil, hsame, locks_New, ht, hl]
  exact hfin
end Go.Proofs.Ytbdhhmnncknhhaa
