/- Any mail's bytes, and back: the plain law. -/
import Derived.Test.YtldfdainhdiffaaMailBytesMailS
import Derived.Test.YtldfdainhdiffaaMailBytesA
set_option linter.unusedVariables false
set_option linter.unusedSimpArgs false
set_option maxRecDepth 100000
namespace Go.Proofs.Ytldfdainhdiffaa
open Go Go.V
theorem mailBytes_plain {a0 : List Int} (o0 : a0.length ≤ maxLen ∧ ∀ x ∈ a0, (Lit.int .u8 x).wf = true) : law17_MailBytes a0 = some true := by
  unfold law17_MailBytes
  simp only [mawake_eq, Option.bind_some, Bool.not_true, cond_false]
  cases h0 : decide ((a0.length : Int) > (300:Int)) with
  | true => rfl
  | false =>
  have l0 : a0.length ≤ 300 := by have := of_decide_eq_false h0; omega
  rw [cond_false]
  refine loop_true (fun s : ref12_Tape × Int => tapeOK s.1 ∧ 0 ≤ s.2) (fun s => (5 - s.2).toNat) ?_ ⟨tape_start (by omega) o0.2, Int.le_refl _⟩
  rintro ⟨t, i⟩ ⟨ht, hi⟩
  by_cases h : i < 5
  · left
    have e1 : decide (i < (5:Int)) = true := by simpa using h
    have e2 : IntKind.i64.wrap (i + (1:Int)) = i + 1 := by simp only at hi; rw [wrap_i64] <;> omega
    obtain ⟨c, t', hc, hcc, ht'⟩ := TP.mail _ ht
    have hc' : law17_make1 t = some (c, t') := hc
    refine ⟨(t', i + 1), ?_, ⟨ht', by simp only at hi ⊢; omega⟩, by simp only; omega⟩
    have d := mdec_enc hcc.1
    rw [hcc.2.1] at d
    simp only [law17_MailBytes_l0, e1, cond_true, hc', Option.bind_some, mencode_G hcc.1, d, fmencode_G hcc.1, toStr_refl, same_mail hcc.1 hcc.1 (mailN_ents hcc), and_self, tr_t (show True from trivial), Bool.not_true, cond_false, e2]
    rfl
  · right
    have e1 : decide (i < (5:Int)) = false := by simpa using h
    simp only [law17_MailBytes_l0, e1, cond_false, inrO, Option.map_some]
end Go.Proofs.Ytldfdainhdiffaa
