/- The bytes of an answer. -/
import Derived.Test.YtkfifhkjdibadaaSessionBytesCodWH
set_option linter.unusedVariables false
set_option linter.unusedSimpArgs false
set_option maxRecDepth 100000
namespace Go.Proofs.Ytkfifhkjdibadaa
open Go Go.V
def gotB (x : api_Got) : List Int := flB x.Has ++ byB x.Val
def pairB (x : api_Pair) : List Int := rkB x.At ++ byB x.Val
def pairsB (l : List api_Pair) : List Int := leB 4 l.length ++ (l.map pairB).flatten
def replyB (x : api_Reply) : List Int := leB 1 (un x.E) ++ (leB 8 x.Epoch.toNat ++ (leB 8 x.Index.toNat ++ (leB 4 x.Gots.length ++ ((x.Gots.map gotB).flatten ++ (leB 4 x.Scans.length ++ (x.Scans.map pairsB).flatten)))))
def pairOK (x : api_Pair) : Prop := isF x.At ∧ x.Val.length ≤ 1000000
def replyOK (x : api_Reply) : Prop := 0 ≤ x.Epoch ∧ 0 ≤ x.Index ∧ (∀ g ∈ x.Gots, g.Val.length ≤ 1000000) ∧ (∀ l ∈ x.Scans, l.length ≤ 1000000 ∧ ∀ p ∈ l, pairOK p) ∧ x.Gots.length ≤ 1000000 ∧ x.Scans.length ≤ 1000000
theorem lay_reply {x : api_Reply} (ok : replyOK x) : WR (fun w => command_LayReply w x) (replyB x) := by
  obtain ⟨h1, h2, h3, h4, h5, h6⟩ := ok
  refine (WR.u1 x.E).bind ((WR.n8 h1).bind ((WR.n8 h2).bind ((WR.cnt x.Gots.length (by omega)).bind (WR.bind ?_ ((WR.cnt x.Scans.length (by omega)).bind ?_)))))
  · refine WR.loopW _ (by simp only [List.length_map]; omega) (fun i hi => ?_) (fun w => ?_)
    · have hi' : i < x.Gots.length := by simpa using hi
      have hv := h3 _ (List.getElem_mem hi')
      refine ⟨_, by rw [List.getElem_map]; exact (WR.flag _).bind (WR.bytes _ (by omega)), fun w => ?_⟩
      have e1 : decide ((i : Int) < (x.Gots.length : Int)) = true := by simpa using hi'
      simp only [command_LayReply_l1, e1, cond_true, geto_lt hi', Option.bind_some, Option.bind_assoc]
    · simp [command_LayReply_l1, inrO]
  · refine WR.loop0 id _ (by simp only [List.length_map]; omega) (fun i hi p hp => ?_) (fun w => ?_)
    · have hi' : i < x.Scans.length := by simpa using hi
      obtain ⟨g1, g2⟩ := h4 _ (List.getElem_mem hi')
      have e1 : decide ((i : Int) < (x.Scans.length : Int)) = true := by simpa using hi'
      have inner : ∀ (p : List Int), p.length + ((x.Scans[i].map pairB)).flatten.length ≤ 1000000000 → loopO (command_LayReply_l3 x.Scans[i] (i : Int)) (({ p := p } : octet_Writer), (0:Int)) = some (Sum.inl (({ p := p ++ (x.Scans[i].map pairB).flatten } : octet_Writer), IntKind.i64.wrap ((i : Int) + (1:Int)))) := by
        intro p hp
        refine WR.loop (fun w => Sum.inl (w, IntKind.i64.wrap ((i : Int) + (1:Int)))) _ (by simp only [List.length_map]; omega) (fun k hk => ?_) (fun w => ?_) p hp
        · have hk' : k < x.Scans[i].length := by simpa using hk
          obtain ⟨f1, f2⟩ := g2 _ (List.getElem_mem hk')
          refine ⟨_, by rw [List.getElem_map]; exact (WR.rank f1).bind (WR.bytes _ (by omega)), fun w => ?_⟩
          have e1 : decide ((k : Int) < (x.Scans[i].length : Int)) = true := by simpa using hk'
          simp only [command_LayReply_l3, e1, cond_true, geto_lt hk', Option.bind_some, rank_eq f1, Option.bind_assoc]
        · simp [command_LayReply_l3, inrO]
      rw [List.getElem_map] at hp ⊢
      simp only [pairsB, List.length_append] at hp
      have hn : octet_Writer_Num { p := p } (IntKind.u64.wrap (x.Scans[i].length : Int)) (4:Int) = some { p := p ++ leB 4 x.Scans[i].length } := WR.cnt x.Scans[i].length (by omega) p (by omega)
      simp only [command_LayReply_l2, e1, cond_true, geto_lt hi', Option.bind_some]
      show (octet_Writer_Num _ _ _).bind _ = _
      rw [hn, Option.bind_some, inner _ (by simp only [List.length_append]; omega), pairsB, List.append_assoc]
    · simp [command_LayReply_l2, inrO]
end Go.Proofs.Ytkfifhkjdibadaa
