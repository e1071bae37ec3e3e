/- Are two commands one? -/
import Derived.Test.YtijcfglomdfglaaCommandLongCodSW
set_option linter.unusedVariables false
set_option linter.unusedSimpArgs false
set_option maxRecDepth 100000
namespace Go.Proofs.Ytijcfglomdfglaa
open Go Go.V
/-- A command, all of it as it comes back. -/
def fC (c : api_Command) : api_Command := { Kind := c.Kind, ID := c.ID, Epoch := c.Epoch, Index := c.Index, E := c.E, Hold := cHold c.Hold, Writes := cWrites c.Writes, R := cReply c.R, Shards := c.Shards, Parts := c.Parts.map cPart, Rule := cRule c.Rule, On := c.On }
theorem same_cmd {a b : api_Command} (ha : cmdG a) (hb : cmdG b) : law13_same a b = some (tr (fC a = fC b)) := by
  obtain ⟨_, _, _, _, _, a4, a5, a6, _, a8, a9, a10⟩ := ha
  obtain ⟨_, _, _, _, _, b4, b5, b6, _, b8, b9, b10⟩ := hb
  unfold law13_same
  refine (and_step (p := a.Kind = b.Kind) (q := (a.ID.Session = b.ID.Session ∧ a.ID.Seq = b.ID.Seq) ∧ a.Epoch = b.Epoch ∧ a.Index = b.Index ∧ a.E = b.E ∧ cHold a.Hold = cHold b.Hold ∧ cWrites a.Writes = cWrites b.Writes ∧ cReply a.R = cReply b.R ∧ a.Shards = b.Shards ∧ a.Parts.length = b.Parts.length ∧ cRule a.Rule = cRule b.Rule ∧ a.On = b.On ∧ a.Parts.map cPart = b.Parts.map cPart) (ne_tr _ _) fun _ => and_step (p := a.ID.Session = b.ID.Session ∧ a.ID.Seq = b.ID.Seq) (congrArg _ (tr_eq (by simp))) fun _ => and_step (ne_tr _ _) fun _ => and_step (ne_tr _ _) fun _ => and_step (ne_tr _ _) fun _ => ?_).trans ?_
  · rw [same_hold a4 b4, Option.bind_some]
    refine and_step rfl fun _ => ?_
    rw [same_writes a5 b5, Option.bind_some]
    refine and_step rfl fun _ => ?_
    rw [same_reply a6 b6, Option.bind_some]
    refine and_step rfl fun _ => and_step (ne_tr _ _) fun _ => and_step (len_tr _ _) fun hp => ?_
    rw [same_rule a10 b10, Option.bind_some]
    refine and_step rfl fun _ => and_step (eqb_tr _ _) fun _ => ?_
    refine (cmp_loop (body := law13_same_l0 a b) true false cPart a.Parts b.Parts hp (by omega) (fun i hi => ?_) ?_).trans (congrArg some bif_tf)
    · have hi' : i < b.Parts.length := hp ▸ hi
      have e1 : decide ((i : Int) < (a.Parts.length : Int)) = true := by simpa using hi
      have g := a9 _ (List.getElem_mem hi)
      have g' := b9 _ (List.getElem_mem hi')
      simp only [law13_same_l0, e1, cond_true, geto_lt hi, geto_lt hi', Option.bind_some, ne_tr, same_writes g.2 g'.2, inrO, Option.map_some]
      rw [stp stp1]
      exact cond_congr (by simp [cPart])
    · simp [law13_same_l0, inrO]
  · refine congrArg _ (tr_congr ?_)
    simp only [fC, api_Command.mk.injEq]
    constructor
    · rintro ⟨h1, h2, h3, h4, h5, h6, h7, h8, h9, _, h10, h11, h12⟩
      exact ⟨h1, (id_eq _ _).1 h2, h3, h4, h5, h6, h7, h8, h9, h12, h10, h11⟩
    · rintro ⟨h1, h2, h3, h4, h5, h6, h7, h8, h9, h12, h10, h11⟩
      exact ⟨h1, (id_eq _ _).2 h2, h3, h4, h5, h6, h7, h8, h9, by simpa using congrArg List.length h12, h10, h11, h12⟩
end Go.Proofs.Ytijcfglomdfglaa
