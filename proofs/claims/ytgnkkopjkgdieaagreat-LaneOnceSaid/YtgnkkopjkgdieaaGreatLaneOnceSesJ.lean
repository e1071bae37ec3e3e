/- A table of sessions' answers as bytes, and any bytes as a table; plainly. -/
import Derived.Test.YtgnkkopjkgdieaaGreatLaneOnceSesR
import Derived.Test.YtgnkkopjkgdieaaGreatLaneOnceCodD
import Derived.Test.YtgnkkopjkgdieaaGreatLaneOnceSlEq
set_option linter.unusedVariables false
set_option linter.unusedSimpArgs false
set_option maxRecDepth 100000
namespace Go.Proofs.YtgnkkopjkgdieaaGreat
open Go Go.V
theorem TP.replyS : TP (fun t => ref13_OfReply t) (fun x => replyN x ∧ (replyB x).length ≤ 200) := by
  refine TP.of reply_teq ?_
  refine TP.bind (TP.next 6) fun e he => ?_
  dsimp only
  have hg : ∃ x : Int, geto ([(0:Int), (0:Int), (0:Int), (8:Int), (9:Int), (3:Int)]) e = some x ∧ isU 1 x := by
    have : e = 0 ∨ e = 1 ∨ e = 2 ∨ e = 3 ∨ e = 4 ∨ e = 5 := by omega
    rcases this with rfl | rfl | rfl | rfl | rfl | rfl <;> exact ⟨_, rfl, by decide, by decide⟩
  obtain ⟨x, hx, hx1⟩ := hg
  simp only [hx, Option.bind_some]
  refine TP.bind (TP.next 4) fun p hp => ?_
  dsimp only
  refine TP.bind (TP.next 9) fun q hq => ?_
  dsimp only
  refine TP.bind (TP.next 3) fun n hn => ?_
  dsimp only
  refine TP.loopB (P := fun y => gotG y ∧ y.Val.length ≤ 3) (body := ref13_OfReply_l2 (n, rt)) (F := fun _ t => (ref12_Tape_Next t (2:Int)).bind fun a => (ref12_Tape_Val a.2).bind fun v => some (({ Has := a.1 == (0:Int), Val := v.1 } : api_Got), v.2)) (fun t acc i => (acc, t, i)) (fun t acc => (t, acc)) n (by omega) hn.1 (fun i _ _ => ?_) (fun t acc i hi => ?_) (fun t acc i hi => ?_) (fun gots g1 g2 => ?_)
  · refine TP.bind (TP.next 2) fun a ha => ?_
    dsimp only
    refine TP.bind TP.val fun v hv => ?_
    dsimp only
    exact TP.ret (P := fun y => gotG y ∧ y.Val.length ≤ 3) ⟨⟨by show v.length ≤ 256; omega, hv.2⟩, hv.1⟩
  · have e : decide (i < n) = true := by simpa using hi
    simp only [ref13_OfReply_l2, e, cond_true, Option.bind_assoc, Option.bind_some]
  · have e : decide (i < n) = false := by simpa using hi
    simp only [ref13_OfReply_l2, e, cond_false, inrO, Option.map_some]
  dsimp only
  refine TP.bind (TP.next 3) fun m hm => ?_
  dsimp only
  obtain ⟨q1, q2⟩ := half hm
  refine TP.loopB (P := fun l => (pairsG l ∧ cPairs l = l) ∧ (pairsB l).length ≤ 100) (body := ref13_OfReply_l3 (m, rt) x (IntKind.u64.wrap p) (IntKind.u64.wrap q) gots) (F := fun _ t => (ref12_Tape_Next t (3:Int)).bind fun k => (loopO (ref13_OfReply_l5 (k.1, rt)) (k.2, (0:Int), [])).bind fun s => some (s.2, s.1)) (fun t acc i => (acc, t, i)) (fun t acc => (({ E := x, Epoch := IntKind.u64.wrap p, Index := IntKind.u64.wrap q, Gots := gots, Scans := acc } : api_Reply), t)) (IntKind.i64.wrap (Int.tdiv m 2)) (by omega) q1 (fun i _ _ => ?_) (fun t acc i hi => ?_) (fun t acc i hi => ?_) (fun scans s1 s2 => ?_)
  · refine TP.bind (TP.next 3) fun k hk => ?_
    dsimp only
    refine TP.loopB (P := fun y => (pairG y ∧ cPair y = y) ∧ y.Val.length ≤ 3) (body := ref13_OfReply_l5 (k, rt)) (F := fun _ t => (ref12_Tape_Float t).bind fun f => (ref12_Tape_Val f.2).bind fun v => some (({ At := f.1, Val := v.1 } : api_Pair), v.2)) (fun t acc i => (t, i, acc)) (fun t acc => (t, acc)) k (by omega) hk.1 (fun i _ _ => ?_) (fun t acc i hi => ?_) (fun t acc i hi => ?_) (fun l l1 l2 => ?_)
    · refine TP.bind TP.float fun f hf => ?_
      dsimp only
      refine TP.bind TP.val fun v hv => ?_
      dsimp only
      exact TP.ret (P := fun y => (pairG y ∧ cPair y = y) ∧ y.Val.length ≤ 3) ⟨⟨⟨hf.1, by show v.length ≤ 256; omega, hv.2⟩, by simp only [cPair, hf.2]⟩, hv.1⟩
    · have e : decide (i < k) = true := by simpa using hi
      simp only [ref13_OfReply_l5, e, cond_true, Option.bind_assoc, Option.bind_some]
    · have e : decide (i < k) = false := by simpa using hi
      simp only [ref13_OfReply_l5, e, cond_false, inrO, Option.map_some]
    · refine TP.ret (P := fun l => (pairsG l ∧ cPairs l = l) ∧ (pairsB l).length ≤ 100) ⟨⟨⟨by omega, fun y hy => (l1 y hy).1.1⟩, ?_⟩, ?_⟩
      · rw [cPairs, List.map_congr_left (g := _root_.id) fun y hy => (l1 y hy).1.2, List.map_id]
      · have b := flat_len (l := l) (e := pairB) (m := 15) fun y hy => by
          have := (l1 y hy).2
          simp only [pairB, byB, List.length_append, rkB_len, leB_length]; omega
        simp only [pairsB, List.length_append, leB_length]; omega
  · have e : decide (i < IntKind.i64.wrap (Int.tdiv m 2)) = true := by simpa using hi
    simp only [ref13_OfReply_l3, e, cond_true, Option.bind_assoc, Option.bind_some]
    refine bnd fun k => bnd ?_
    rintro ⟨t1, l⟩
    rfl
  · have e : decide (i < IntKind.i64.wrap (Int.tdiv m 2)) = false := by simpa using hi
    simp only [ref13_OfReply_l3, e, cond_false, inrO, Option.map_some]
  · refine TP.ret (P := fun x => replyN x ∧ (replyB x).length ≤ 200) ⟨⟨⟨hx1, small_u hp.1 (by omega), small_u hq.1 (by omega), fun y hy => (g1 y hy).1, fun l hl => (s1 l hl).1.1, ?_, ?_⟩, ?_⟩, ?_⟩
    · show gots.length ≤ 32; omega
    · show scans.length ≤ 32; omega
    · have e1 : gots.map cGot = gots := map_id' fun y _ => rfl
      have e2 : scans.map cPairs = scans := by rw [List.map_congr_left (g := _root_.id) fun y hy => (s1 y hy).1.2, List.map_id]
      simp only [cReply, e1, e2]
    · have a1 := flat_len (l := gots) (e := gotB) (m := 8) fun y hy => by
        have := (g1 y hy).2
        simp only [gotB, flB, byB, List.length_append, leB_length]; omega
      have a2 := flat_len (l := scans) (e := pairsB) (m := 100) fun l hl => (s1 l hl).2
      simp only [replyB, List.length_append, leB_length]
      omega
/-! ### Bytes -/
end Go.Proofs.YtgnkkopjkgdieaaGreat
