/- Any answer's bytes, and back: the plain law. -/
import Derived.Test.YtijcfglomdfglaaCommandRepliesLCommandApart
import Derived.Test.YtijcfglomdfglaaCommandRepliesCodFC
set_option linter.unusedVariables false
set_option linter.unusedSimpArgs false
set_option maxRecDepth 100000
namespace Go.Proofs.Ytijcfglomdfglaa
open Go Go.V
theorem cPair_c {x : api_Pair} (h : pairG x) : cPair (cPair x) = cPair x := by
  show ({ At := cf (cf x.At), Val := x.Val } : api_Pair) = { At := cf x.At, Val := x.Val }
  rw [(cf_eq (cf_isF _ h.1) h.1).2 (fRank_cf h.1)]
theorem cReply_c {x : api_Reply} (g : replyG x) : cReply (cReply x) = cReply x := by
  obtain ⟨h1, h2, h3, h4, h5, h6, h7⟩ := g
  have e1 : (x.Gots.map cGot).map cGot = x.Gots.map cGot := by rw [List.map_map]; exact map_eq fun y hy => rfl
  have e2 : (x.Scans.map cPairs).map cPairs = x.Scans.map cPairs := by
    rw [List.map_map]
    refine map_eq fun l hl => ?_
    show (l.map cPair).map cPair = l.map cPair
    rw [List.map_map]
    exact map_eq fun y hy => cPair_c ((h5 l hl).2 y hy)
  show ({ E := x.E, Epoch := x.Epoch, Index := x.Index, Gots := (x.Gots.map cGot).map cGot, Scans := (x.Scans.map cPairs).map cPairs } : api_Reply) = _
  rw [e1, e2]; rfl
theorem reply_step (t : api_Reply × ref12_Tape) (x : api_Reply) (i : Int) (g : replyG x) (hi : i < 2) :
    law13_CommandReplies_l5 t (x.E, x.Epoch, x.Index, x.Gots, x.Scans, i) = some (Sum.inl (t.1.E, t.1.Epoch, t.1.Index, t.1.Gots, t.1.Scans, IntKind.i64.wrap (i + (1:Int)))) := by
  have e1 : decide (i < (2:Int)) = true := by simpa using hi
  have hl := replyB_len g
  have w1 : command_LayReply { p := [] } x = some { p := replyB x } := lay_reply g.ok [] (by simp only [List.length_nil]; omega)
  have w2 : ref13_Reply [] x = some (replyB x) := put_reply g.ok [] (by simp only [List.length_nil]; omega)
  have r := (RD.reply g).2 [] U8s.nil (by simp only [List.length_nil]; omega)
  rw [List.append_nil] at r
  have sm : ref11_SameReply (cReply x) x = some true := by
    rw [same_reply (replyG_c g) g, tr_t (cReply_c g)]
  have hx : ({ E := x.E, Epoch := x.Epoch, Index := x.Index, Gots := x.Gots, Scans := x.Scans } : api_Reply) = x := rfl
  simp only [law13_CommandReplies_l5, hx, e1, cond_true, w1, w2, r, octet_Writer_Done, octet_Read, Option.bind_some, toStr_refl, Bool.not_true, cond_false, sm, octet_Reader_End, octet_Reader_Bad, Bool.not_false, List.length_nil]
  rfl
theorem commandReplies_plain {a0 : api_Reply} {a1 : List Int} (o0 : ok_api_Reply a0) (o1 : a1.length ≤ maxLen ∧ ∀ x ∈ a1, (Lit.int .u8 x).wf = true) : law13_CommandReplies a0 a1 = some true := by
  obtain ⟨x1, x2, x3, x4, x5⟩ := o0
  have x2 := lit_u64.1 x2
  have x3 := lit_u64.1 x3
  unfold law13_CommandReplies
  simp only [awake_eq, Option.bind_some, Bool.not_true, cond_false]
  cases h0 : decide ((a0.Gots.length : Int) > (32:Int)) with
  | true => rfl
  | false =>
  cases h1 : decide ((a0.Scans.length : Int) > (32:Int)) with
  | true => rfl
  | false =>
  cases h2 : decide ((a1.length : Int) > (200:Int)) with
  | true => rfl
  | false =>
  cases h3 : decide (a0.E < (0:Int)) with
  | true => rfl
  | false =>
  cases h4 : decide (a0.E > (255:Int)) with
  | true => rfl
  | false =>
  have h0 := of_decide_eq_false h0
  have h1 := of_decide_eq_false h1
  have h2 := of_decide_eq_false h2
  have h3 := of_decide_eq_false h3
  have h4 := of_decide_eq_false h4
  simp only [cond_false]
  have u8 : ∀ {l : List Int}, (∀ x ∈ l, (Lit.int .u8 x).wf = true) → U8s l := fun h y hy => lit_u8.1 (h y hy)
  have st1 : ∀ i, i < a0.Gots.length → ((∀ h : i < a0.Gots.length, a0.Gots[i].Val.length ≤ 256) ∧ law13_CommandReplies_l1 a0 (i : Int) = some (.inl (IntKind.i64.wrap ((i : Int) + (1:Int))))) ∨ law13_CommandReplies_l1 a0 (i : Int) = some (.inr (Sum.inr true)) := by
    intro i hi
    have e1 : decide ((i : Int) < (a0.Gots.length : Int)) = true := by simpa using hi
    cases hv : decide ((a0.Gots[i].Val.length : Int) > (256:Int)) with
    | true => right; simp only [law13_CommandReplies_l1, e1, cond_true, geto_lt hi, Option.bind_some, hv, inrO, Option.map_some]
    | false =>
      have hv' := of_decide_eq_false hv
      left
      exact ⟨fun _ => by omega, by simp only [law13_CommandReplies_l1, e1, cond_true, geto_lt hi, Option.bind_some, hv, cond_false]⟩
  have st3 : ∀ i (hi : i < a0.Scans.length), ((a0.Scans[i].length ≤ 64 ∧ ∀ k (hk : k < a0.Scans[i].length), a0.Scans[i][k].Val.length ≤ 256) ∧ law13_CommandReplies_l3 a0 (i : Int) = some (.inl (IntKind.i64.wrap ((i : Int) + (1:Int))))) ∨ law13_CommandReplies_l3 a0 (i : Int) = some (.inr (Sum.inr true)) := by
    intro i hi
    have e1 : decide ((i : Int) < (a0.Scans.length : Int)) = true := by simpa using hi
    cases hL : decide ((a0.Scans[i].length : Int) > (64:Int)) with
    | true =>
      right
      simp only [law13_CommandReplies_l3, e1, cond_true, geto_lt hi, Option.bind_some, hL, inrO, Option.map_some]
    | false =>
      have hL' := of_decide_eq_false hL
      have st4 : ∀ k, k < a0.Scans[i].length → ((∀ h : k < a0.Scans[i].length, a0.Scans[i][k].Val.length ≤ 256) ∧ law13_CommandReplies_l4 a0.Scans[i] (i : Int) (k : Int) = some (.inl (IntKind.i64.wrap ((k : Int) + (1:Int))))) ∨ law13_CommandReplies_l4 a0.Scans[i] (i : Int) (k : Int) = some (.inr (Sum.inr (Sum.inr true))) := by
        intro k hk
        have e2 : decide ((k : Int) < (a0.Scans[i].length : Int)) = true := by simpa using hk
        cases hv : decide ((a0.Scans[i][k].Val.length : Int) > (256:Int)) with
        | true => right; simp only [law13_CommandReplies_l4, e2, cond_true, geto_lt hk, Option.bind_some, hv, inrO, Option.map_some]
        | false =>
          have hv' := of_decide_eq_false hv
          left
          exact ⟨fun _ => by omega, by simp only [law13_CommandReplies_l4, e2, cond_true, geto_lt hk, Option.bind_some, hv, cond_false]⟩
      rcases scan_loop (body := law13_CommandReplies_l4 a0.Scans[i] (i : Int)) (Sum.inr (Sum.inr true)) (Sum.inl (IntKind.i64.wrap ((i : Int) + (1:Int)))) a0.Scans[i].length _ (by omega) st4 (by simp [law13_CommandReplies_l4, inrO]) with ⟨s3, p3⟩ | s3
      · left
        refine ⟨⟨by omega, fun k hk => p3 k hk hk⟩, ?_⟩
        simp only [law13_CommandReplies_l3, e1, cond_true, geto_lt hi, Option.bind_some, hL, cond_false, s3]
      · right
        simp only [law13_CommandReplies_l3, e1, cond_true, geto_lt hi, Option.bind_some, hL, cond_false, s3]
  rcases scan_loop (body := law13_CommandReplies_l1 a0) (Sum.inr true) (Sum.inl ()) a0.Gots.length _ (by omega) st1 (by simp [law13_CommandReplies_l1, inrO]) with ⟨s1, p1⟩ | s1
  · rw [s1]
    show law13_CommandReplies_j0 a0 a1 () = _
    unfold law13_CommandReplies_j0
    rcases scan_loop (body := law13_CommandReplies_l3 a0) (Sum.inr true) (Sum.inl ()) a0.Scans.length (fun i => ∀ h : i < a0.Scans.length, a0.Scans[i].length ≤ 64 ∧ ∀ k (hk : k < a0.Scans[i].length), a0.Scans[i][k].Val.length ≤ 256) (by omega) (fun i hi => (st3 i hi).imp (fun h => ⟨fun _ => h.1, h.2⟩) id) (by simp [law13_CommandReplies_l3, inrO]) with ⟨s2, p2⟩ | s2
    · rw [s2]
      show law13_CommandReplies_j2 a1 a0 () = _
      have g : replyG a0 := by
        refine ⟨⟨by omega, by rw [pw1]; omega⟩, ⟨x2.1, by rw [pw8]; omega⟩, ⟨x3.1, by rw [pw8]; omega⟩, fun y hy => ?_, fun l hl => ?_, by omega, by omega⟩
        · obtain ⟨i, hi, rfl⟩ := List.mem_iff_getElem.1 hy
          exact ⟨p1 i hi hi, u8 (x4.2 _ hy).2.2⟩
        · obtain ⟨i, hi, rfl⟩ := List.mem_iff_getElem.1 hl
          refine ⟨(p2 i hi hi).1, fun y hy => ?_⟩
          have hxy := (x5.2 _ hl).2 y hy
          obtain ⟨k, hk, rfl⟩ := List.mem_iff_getElem.1 hy
          exact ⟨f64_lt hxy.1, (p2 i hi hi).2 k hk, u8 hxy.2.2⟩
      obtain ⟨y, t, hy, hyy, _⟩ := TP.reply _ (tape_start (l := a1) (by omega) o1.2)
      unfold law13_CommandReplies_j2
      have hy' : ref13_OfReply { L := a1, I := 0 } = some (y, t) := hy
      rw [hy', Option.bind_some]
      have e3 : law13_CommandReplies_l5 (y, t) (y.E, y.Epoch, y.Index, y.Gots, y.Scans, (2:Int)) = some (Sum.inr true) := rfl
      rw [loopO_eq, reply_step (y, t) a0 0 g (by decide)]
      show loopO (law13_CommandReplies_l5 (y, t)) (y.E, y.Epoch, y.Index, y.Gots, y.Scans, (1:Int)) = some true
      rw [loopO_eq, reply_step (y, t) y 1 hyy.1 (by decide)]
      show loopO (law13_CommandReplies_l5 (y, t)) (y.E, y.Epoch, y.Index, y.Gots, y.Scans, (2:Int)) = some true
      rw [loopO_eq, e3]; rfl
    · rw [s2]; rfl
  · rw [s1]; rfl
end Go.Proofs.Ytijcfglomdfglaa
