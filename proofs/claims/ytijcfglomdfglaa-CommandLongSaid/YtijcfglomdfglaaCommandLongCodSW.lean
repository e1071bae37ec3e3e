/- Are two lists of writes, two rules one? -/
import Derived.Test.YtijcfglomdfglaaCommandLongCodS
set_option linter.unusedVariables false
set_option linter.unusedSimpArgs false
set_option maxRecDepth 100000
namespace Go.Proofs.Ytijcfglomdfglaa
open Go Go.V
/-! ### Rules, writes, commands -/
theorem same_writes {a b : List api_Write} (ha : writesG a) (hb : writesG b) : ref13_SameWrites a b = some (tr (cWrites a = cWrites b)) := by
  have hn := ha.1
  refine cmp_len fun hl => ?_
  refine (cmp_loop (body := ref13_SameWrites_l0 a b) true false cWrite a b hl (by omega) (fun i hi => ?_) ?_).trans (congrArg some bif_tf)
  · have hi' : i < b.length := hl ▸ hi
    have e1 : decide ((i : Int) < (a.length : Int)) = true := by simpa using hi
    have g := ha.2 _ (List.getElem_mem hi)
    have g' := hb.2 _ (List.getElem_mem hi')
    simp only [ref13_SameWrites_l0, e1, cond_true, geto_lt hi, geto_lt hi', Option.bind_some, same_cf g.1 g'.1, eqb_tr, txt_tr g.2.2 g'.2.2, inrO, Option.map_some]
    rw [stp (stp stp1)]
    exact cond_congr (by simp [cWrite])
  · simp [ref13_SameWrites_l0, inrO]
theorem same_rule {a b : api_Rule} (ha : ruleG a) (hb : ruleG b) : ref11_SameRule a b = some (tr (cRule a = cRule b)) := by
  have st : ∀ {p q : Prop} {X : Option Bool}, (p → X = some (tr q)) → (bif tr p then X else some false) = some (tr (p ∧ q)) := by
    intro p q X h
    by_cases hp : p
    · rw [tr_t hp, cond_true, h hp, tr_congr (q := p ∧ q) ⟨fun hq => ⟨hp, hq⟩, fun hq => hq.2⟩]
    · rw [tr_f hp, cond_false, tr_f fun h => hp h.1]
  unfold ref11_SameRule
  simp only [eqi_tr, same_cf ha.2.2.2.1 hb.2.2.2.1, same_cf ha.2.2.2.2.1 hb.2.2.2.2.1, Option.bind_some]
  refine (st fun _ => st fun _ => st fun _ => st fun _ => st fun _ => st fun _ => rfl).trans ?_
  exact congrArg _ (tr_congr (by simp only [cRule, api_Rule.mk.injEq]))
end Go.Proofs.Ytijcfglomdfglaa
