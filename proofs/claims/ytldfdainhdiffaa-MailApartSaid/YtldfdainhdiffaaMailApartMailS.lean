/- Are two mails one? And the guards of the laws on mails. -/
import Derived.Test.YtldfdainhdiffaaMailApartMailT
set_option linter.unusedVariables false
set_option linter.unusedSimpArgs false
set_option maxRecDepth 100000
namespace Go.Proofs.Ytldfdainhdiffaa
open Go Go.V
theorem same_ents {a b : List api_Entry} (ha : ∀ x ∈ a, entG x) (hb : ∀ x ∈ b, entG x) (hn : a.length ≤ 1000000) : ref08_SameEntries a b = some (tr (a = b)) := by
  have h := cmp_len (c := cEnt) (a := a) (b := b) (X := loopO (ref08_SameEntries_l0 a b) (0:Int)) fun hl => by
    refine (cmp_loop (body := ref08_SameEntries_l0 a b) true false cEnt a b hl hn (fun i hi => ?_) ?_).trans (congrArg some bif_tf)
    · have hi' : i < b.length := hl ▸ hi
      have e1 : decide ((i : Int) < (a.length : Int)) = true := by simpa using hi
      simp only [ref08_SameEntries_l0, e1, cond_true, geto_lt hi, geto_lt hi', Option.bind_some, ne_tr, txt_tr (ha _ (List.getElem_mem hi)).2.2.2.2 (hb _ (List.getElem_mem hi')).2.2.2.2, inrO, Option.map_some]
      rw [stp (stp (stp stp1))]
      refine cond_congr ?_
      generalize a[i] = x
      generalize b[i] = y
      cases x; cases y; simp [cEnt]
    · simp [ref08_SameEntries_l0, inrO]
  have e : ∀ l : List api_Entry, l.map cEnt = l := fun l => map_id' fun y _ => rfl
  rw [e, e] at h
  exact h
theorem st_and {p q : Prop} {X : Option Bool} (h : p → X = some (tr q)) : (bif tr p then X else some false) = some (tr (p ∧ q)) := by
  by_cases hp : p
  · rw [tr_t hp, cond_true, h hp, tr_congr (q := p ∧ q) ⟨fun hq => ⟨hp, hq⟩, fun hq => hq.2⟩]
  · rw [tr_f hp, cond_false, tr_f fun h => hp h.1]
theorem fcmd {m : api_Mail} (g : mailG m) : ref13_Command m.C = some (cmdB m.C) ∧ U8s (cmdB m.C) := by
  obtain ⟨_, _, _, _, _, h⟩ := g
  have hk := h.ok
  refine ⟨fencode_eq hk.1 (by have := hk.2; omega), ?_⟩
  rcases h.1 with g | g
  · exact cmdB_u8 g
  · rw [g]; intro y hy; revert y; show U8s (leB 1 (un 0) ++ []); exact U8s.le.app U8s.nil
theorem same_mail {a b : api_Mail} (ha : mailG a) (hb : mailG b) (hn : a.M.Entries.length ≤ 1000000) : law17_same a b = some (tr (a.M = b.M ∧ a.Kind = b.Kind ∧ a.ID = b.ID ∧ cHold a.H = cHold b.H ∧ cReply a.R = cReply b.R ∧ cmdB a.C = cmdB b.C)) := by
  obtain ⟨fa, ua⟩ := fcmd ha
  obtain ⟨fb, ub⟩ := fcmd hb
  obtain ⟨_, am, ah, ar, _, _⟩ := ha
  obtain ⟨_, bm, bh, br, _, _⟩ := hb
  obtain ⟨_, _, _, _, _, _, _, am8, _, _, _, _, am13, _⟩ := am
  obtain ⟨_, _, _, _, _, _, _, bm8, _, _, _, _, bm13, _⟩ := bm
  unfold law17_same
  simp only [same_ents am8 bm8 hn, same_hold ah bh, same_reply ar br, fa, fb, Option.bind_some, txt_tr am13 bm13, txt_tr ua ub, eqi_tr]
  refine (and_step (p := a.M.Kind = b.M.Kind) (q := a.M.From = b.M.From ∧ a.M.To = b.M.To ∧ a.M.Term = b.M.Term ∧ a.M.Index = b.M.Index ∧ a.M.LogTerm = b.M.LogTerm ∧ a.M.Commit = b.M.Commit ∧ a.M.OK = b.M.OK ∧ a.M.Entries = b.M.Entries ∧ a.M.S.Index = b.M.S.Index ∧ a.M.S.Term = b.M.S.Term ∧ a.M.S.Voters = b.M.S.Voters ∧ a.M.S.Data = b.M.S.Data ∧ a.Kind = b.Kind ∧ (a.ID.Session = b.ID.Session ∧ a.ID.Seq = b.ID.Seq) ∧ cHold a.H = cHold b.H ∧ cReply a.R = cReply b.R ∧ cmdB a.C = cmdB b.C) (ne_tr _ _) fun _ => and_step (ne_tr _ _) fun _ => and_step (ne_tr _ _) fun _ => and_step (ne_tr _ _) fun _ => and_step (ne_tr _ _) fun _ => and_step (ne_tr _ _) fun _ => and_step (ne_tr _ _) fun _ => and_step (eqb_tr _ _) fun _ => and_step rfl fun _ => and_step (ne_tr _ _) fun _ => and_step (ne_tr _ _) fun _ => and_step (ne_tr _ _) fun _ => and_step rfl fun _ => st_and fun _ => ?_).trans ?_
  · have e : (tr (a.ID.Session = b.ID.Session) && tr (a.ID.Seq = b.ID.Seq)) = tr (a.ID.Session = b.ID.Session ∧ a.ID.Seq = b.ID.Seq) := tr_eq (by simp [tr_iff])
    rw [e]
    exact st_and fun _ => st_and fun _ => st_and fun _ => rfl
  · refine congrArg _ (tr_congr ?_)
    have hm : a.M = b.M ↔ (a.M.Kind = b.M.Kind ∧ a.M.From = b.M.From ∧ a.M.To = b.M.To ∧ a.M.Term = b.M.Term ∧ a.M.Index = b.M.Index ∧ a.M.LogTerm = b.M.LogTerm ∧ a.M.Commit = b.M.Commit ∧ a.M.OK = b.M.OK ∧ a.M.Entries = b.M.Entries ∧ a.M.S.Index = b.M.S.Index ∧ a.M.S.Term = b.M.S.Term ∧ a.M.S.Voters = b.M.S.Voters ∧ a.M.S.Data = b.M.S.Data) := by
      generalize a.M = x
      generalize b.M = y
      obtain ⟨x1, x2, x3, x4, x5, x6, x7, x8, x9, ⟨s1, s2, s3, s4⟩⟩ := x
      obtain ⟨y1, y2, y3, y4, y5, y6, y7, y8, y9, ⟨t1, t2, t3, t4⟩⟩ := y
      simp
    rw [hm, ← id_eq]
    constructor
    · rintro ⟨h1, h2, h3, h4, h5, h6, h7, h8, h9, h10, h11, h12, h13, h14, h15, h16, h17, h18⟩
      exact ⟨⟨h1, h2, h3, h4, h5, h6, h7, h8, h9, h10, h11, h12, h13⟩, h14, h15, h16, h17, h18⟩
    · rintro ⟨⟨h1, h2, h3, h4, h5, h6, h7, h8, h9, h10, h11, h12, h13⟩, h14, h15, h16, h17, h18⟩
      exact ⟨h1, h2, h3, h4, h5, h6, h7, h8, h9, h10, h11, h12, h13, h14, h15, h16, h17, h18⟩
theorem mawake_eq : law17_awake = some true := by
  have hg : mailG { zM with Kind := 5, ID := { Session := 1, Seq := 2 } } := ⟨md 5 (by decide), zMsg_G, zH_G, zR_G, ⟨⟨by decide, by decide⟩, ⟨by decide, by decide⟩⟩, zcG rfl (show (5:Int) ≠ 4 by decide)⟩
  have e := mencode_G hg
  show ((mail_Encode { zM with Kind := 5, ID := { Session := 1, Seq := 2 } }).bind fun t43 => (bif (sEq (toStr t43) (ByteArray.mk #[5, 1, 0, 0, 0, 0, 0, 0, 0, 2, 0, 0, 0, 0, 0, 0, 0])) then (some true) else (some false))) = _
  rw [e, Option.bind_some]
  have e2 : sEq (toStr (mailB { zM with Kind := 5, ID := { Session := 1, Seq := 2 } })) (ByteArray.mk #[5, 1, 0, 0, 0, 0, 0, 0, 0, 2, 0, 0, 0, 0, 0, 0, 0]) = true := by
    unfold sEq
    rw [toList_data, toList_data, toStr_data]
    decide
  rw [e2]; rfl
theorem mailB_u8 {m : api_Mail} (g : mailG m) : U8s (mailB m) := by
  obtain ⟨hk, h1, h2, h3, h4, h5⟩ := g
  have a1 := (RD.message h1).1
  have a2 := (RD.hold h2).1
  have a3 := (RD.reply h3).1
  have a4 := (RD.id h4).1
  refine U8s.le.app ?_
  rcases mkinds hk with k | k | k | k | k | k <;> simp only [mbody, k, if_true, if_false, Int.reduceEq]
  · exact a1
  · exact a2
  · exact a2.app a3
  · exact U8s.le.app (cmdB_u8 (h5.2 k).1)
  · exact a4
  · exact a2
theorem tape_start {l : List Int} (hl : l.length ≤ 1000000) (h : ∀ x ∈ l, (Lit.int .u8 x).wf = true) : tapeOK { L := l, I := 0 } := ⟨Int.le_refl _, hl, fun x hx => lit_u8.1 (h x hx)⟩
theorem mailN_ents {m : api_Mail} (h : mailN m) : m.M.Entries.length ≤ 1000000 := by
  obtain ⟨g, e, _, _, hl⟩ := h
  rcases mkinds g.1 with k | k | k | k | k | k
  · have := ents_len m.M.Entries
    simp only [mailB, mbody, k, if_true, msgB, snapB, byB, flB, List.length_append, leB_length] at hl
    have h2 := ents_bytes m.M.Entries
    omega
  all_goals
    have h := congrArg (fun m : api_Mail => m.M.Entries.length) e
    simp only [cMail, k, if_true, if_false, Int.reduceEq] at h
    rw [← h]; exact Nat.zero_le _
end Go.Proofs.Ytldfdainhdiffaa
