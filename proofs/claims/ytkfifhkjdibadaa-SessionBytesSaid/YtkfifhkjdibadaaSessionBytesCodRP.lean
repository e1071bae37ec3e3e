/- An answer is read. -/
import Derived.Test.YtkfifhkjdibadaaSessionBytesCodRH
import Derived.Test.YtkfifhkjdibadaaSessionBytesCodWP
set_option linter.unusedVariables false
set_option linter.unusedSimpArgs false
set_option maxRecDepth 100000
namespace Go.Proofs.Ytkfifhkjdibadaa
open Go Go.V
noncomputable def rdGot (r : octet_Reader) : Option (api_Got × octet_Reader) := (octet_Reader_Flag r).bind fun a => (octet_Reader_Bytes a.2 (256:Int)).bind fun b => some (({ Has := a.1, Val := b.1 } : api_Got), b.2)
noncomputable def rdPair (r : octet_Reader) : Option (api_Pair × octet_Reader) := (rdF r).bind fun a => (octet_Reader_Bytes a.2 (256:Int)).bind fun b => some (({ At := a.1, Val := b.1 } : api_Pair), b.2)
def gotG (x : api_Got) : Prop := x.Val.length ≤ 256 ∧ U8s x.Val
def pairG (x : api_Pair) : Prop := isF x.At ∧ x.Val.length ≤ 256 ∧ U8s x.Val
def pairsG (l : List api_Pair) : Prop := l.length ≤ 64 ∧ ∀ p ∈ l, pairG p
def replyG (x : api_Reply) : Prop := isU 1 x.E ∧ isU 8 x.Epoch ∧ isU 8 x.Index ∧ (∀ g ∈ x.Gots, gotG g) ∧ (∀ l ∈ x.Scans, pairsG l) ∧ x.Gots.length ≤ 32 ∧ x.Scans.length ≤ 32
theorem replyG.ok {x : api_Reply} (g : replyG x) : replyOK x := by
  obtain ⟨h1, h2, h3, h4, h5, h6, h7⟩ := g
  exact ⟨h2.1, h3.1, fun g hg => by have := (h4 g hg).1; omega, fun l hl => ⟨by have := (h5 l hl).1; omega, fun p hp => ⟨((h5 l hl).2 p hp).1, by have := ((h5 l hl).2 p hp).2.1; omega⟩⟩, by omega, by omega⟩
def cGot (x : api_Got) : api_Got := { Has := x.Has, Val := x.Val }
def cPair (x : api_Pair) : api_Pair := { At := cf x.At, Val := x.Val }
def cPairs (l : List api_Pair) : List api_Pair := l.map cPair
def cReply (x : api_Reply) : api_Reply := { E := x.E, Epoch := x.Epoch, Index := x.Index, Gots := x.Gots.map cGot, Scans := x.Scans.map cPairs }
theorem RD.got {x : api_Got} (h : gotG x) : RD rdGot (gotB x) (cGot x) := by
  refine RD.bind (RD.flag x.Has) ?_
  dsimp only
  exact RD.map (RD.bytes x.Val (by have := h.1; omega) (by decide) h.2) fun r => rfl
theorem TT.got : TT rdGot gotG := by
  refine TT.bind TT.flag fun a _ => ?_
  dsimp only
  refine TT.bind (TT.bytes (by decide) (by decide)) fun b hb => ?_
  dsimp only
  exact TT.ret (P := gotG) ⟨Int.ofNat_le.1 hb.1, hb.2⟩
theorem RD.pair {x : api_Pair} (h : pairG x) : RD rdPair (pairB x) (cPair x) := by
  refine RD.bind (RD.f h.1) ?_
  dsimp only
  exact RD.map (RD.bytes x.Val (by have := h.2.1; omega) (by decide) h.2.2) fun r => rfl
theorem TT.pair : TT rdPair pairG := by
  refine TT.bind TT.f fun a ha => ?_
  dsimp only
  refine TT.bind (TT.bytes (by decide) (by decide)) fun b hb => ?_
  dsimp only
  exact TT.ret (P := pairG) ⟨ha, Int.ofNat_le.1 hb.1, hb.2⟩
noncomputable def rdGots (r : octet_Reader) : Option (List api_Got × octet_Reader) := (octet_Reader_Count r (32:Int)).bind fun t => (loopO (command_ReadReply_l1 t) ([], t.2, (0:Int))).bind fun s => some (s.2, s.1)
noncomputable def rdPairs (r : octet_Reader) : Option (List api_Pair × octet_Reader) := (octet_Reader_Count r (64:Int)).bind fun t => (loopO (command_ReadReply_l4 t) (t.2, (0:Int), [])).bind fun s => some (s.2, s.1)
theorem gots_step (t : Int × octet_Reader) (r : octet_Reader) (acc : List api_Got) (i : Int) (hi : i < t.1) : command_ReadReply_l1 t (acc, r, i) = (rdGot r).bind fun u => gd (room acc [u.1]) (some (Sum.inl (acc ++ [u.1], u.2, IntKind.i64.wrap (i + (1:Int))))) := by
  have e : decide (i < t.1) = true := by simpa using hi
  simp only [command_ReadReply_l1, e, cond_true, rdGot, Option.bind_assoc, Option.bind_some]
theorem pairs_step (t : Int × octet_Reader) (r : octet_Reader) (acc : List api_Pair) (i : Int) (hi : i < t.1) : command_ReadReply_l4 t (r, i, acc) = (rdPair r).bind fun u => gd (room acc [u.1]) (some (Sum.inl (u.2, IntKind.i64.wrap (i + (1:Int)), acc ++ [u.1]))) := by
  have e : decide (i < t.1) = true := by simpa using hi
  simp only [command_ReadReply_l4, e, cond_true, rdPair, rdF, Option.bind_assoc, Option.bind_some]
theorem gots_end (t : Int × octet_Reader) (r : octet_Reader) (acc : List api_Got) (i : Int) (hi : ¬ i < t.1) : command_ReadReply_l1 t (acc, r, i) = some (Sum.inr (r, acc)) := by simp [command_ReadReply_l1, hi, inrO]
theorem pairs_end (t : Int × octet_Reader) (r : octet_Reader) (acc : List api_Pair) (i : Int) (hi : ¬ i < t.1) : command_ReadReply_l4 t (r, i, acc) = some (Sum.inr (r, acc)) := by simp [command_ReadReply_l4, hi, inrO]
theorem RD.gots {l : List api_Got} (hl : l.length ≤ 32) (h : ∀ x ∈ l, gotG x) : RD rdGots (leB 4 l.length ++ (l.map gotB).flatten) (l.map cGot) :=
  RD.listG (fun r acc i => (acc, r, i)) (fun r acc => (r, acc)) (fun s => some (s.2, s.1)) l gotB cGot (by omega) (by decide) (fun x hx => RD.got (h x hx)) gots_step gots_end fun r => rfl
theorem TT.gots : TT rdGots (fun l => (l.length : Int) ≤ 32 ∧ ∀ x ∈ l, gotG x) :=
  TT.listG (fun r acc i => (acc, r, i)) (fun r acc => (r, acc)) (fun s => some (s.2, s.1)) (by decide) (by decide) TT.got gots_step gots_end fun r acc h1 h2 => ⟨acc, rfl, h1, h2⟩
theorem RD.pairs {l : List api_Pair} (h : pairsG l) : RD rdPairs (pairsB l) (cPairs l) :=
  RD.listG (fun r acc i => (r, i, acc)) (fun r acc => (r, acc)) (fun s => some (s.2, s.1)) l pairB cPair (by have := h.1; omega) (by decide) (fun x hx => RD.pair (h.2 x hx)) pairs_step pairs_end fun r => rfl
theorem TT.pairs : TT rdPairs pairsG :=
  TT.listG (fun r acc i => (r, i, acc)) (fun r acc => (r, acc)) (fun s => some (s.2, s.1)) (by decide) (by decide) TT.pair pairs_step pairs_end fun r acc h1 h2 => ⟨acc, rfl, Int.ofNat_le.1 h1, h2⟩
theorem pscans_step (a b d : Int × octet_Reader) (g : List api_Got) (t : Int × octet_Reader) (r : octet_Reader) (acc : List (List api_Pair)) (i : Int) (hi : i < t.1) : command_ReadReply_l2 t a b d g (acc, r, i) = (rdPairs r).bind fun u => gd (room acc [u.1]) (some (Sum.inl (acc ++ [u.1], u.2, IntKind.i64.wrap (i + (1:Int))))) := by
  have e : decide (i < t.1) = true := by simpa using hi
  simp only [command_ReadReply_l2, e, cond_true, rdPairs, Option.bind_assoc, Option.bind_some]
  refine bnd fun t1 => bnd ?_
  rintro ⟨r1, l1⟩
  rfl
theorem pscans_end (a b d : Int × octet_Reader) (g : List api_Got) (t : Int × octet_Reader) (r : octet_Reader) (acc : List (List api_Pair)) (i : Int) (hi : ¬ i < t.1) : command_ReadReply_l2 t a b d g (acc, r, i) = some (Sum.inr (({ E := IntKind.i64.wrap a.1, Epoch := b.1, Index := d.1, Gots := g, Scans := acc } : api_Reply), r)) := by simp [command_ReadReply_l2, hi, inrO]
def rz : octet_Reader := { p := [], bad := false }
theorem reply_eq (r : octet_Reader) : command_ReadReply r = (octet_Reader_Num r (1:Int)).bind fun a => (octet_Reader_Num a.2 (8:Int)).bind fun b => (octet_Reader_Num b.2 (8:Int)).bind fun d => (rdGots d.2).bind fun g => (octet_Reader_Count g.2 (32:Int)).bind fun t => loopO (command_ReadReply_l2 t (a.1, rz) (b.1, rz) (d.1, rz) g.1) ([], t.2, (0:Int)) := by
  unfold command_ReadReply
  refine bnd fun t1 => bnd fun t2 => bnd fun t3 => ?_
  simp only [rdGots, Option.bind_assoc, Option.bind_some]
  refine bnd fun t4 => bnd ?_
  rintro ⟨r5, g⟩
  rfl
theorem RD.reply {x : api_Reply} (g : replyG x) : RD command_ReadReply (replyB x) (cReply x) := by
  obtain ⟨h1, h2, h3, h4, h5, h6, h7⟩ := g
  have w : IntKind.i64.wrap x.E = x.E := by
    obtain ⟨a, b⟩ := h1
    rw [pw1] at b
    rw [wrap_i64] <;> omega
  refine RD.of reply_eq (RD.congr (b := leB 1 (un x.E) ++ (leB 8 x.Epoch.toNat ++ (leB 8 x.Index.toNat ++ ((leB 4 x.Gots.length ++ (x.Gots.map gotB).flatten) ++ (leB 4 x.Scans.length ++ (x.Scans.map pairsB).flatten))))) ?_ (by simp only [replyB, List.append_assoc]) rfl)
  refine RD.bind (RD.u1 h1) ?_
  dsimp only
  refine RD.bind (RD.n8 h2) ?_
  dsimp only
  refine RD.bind (RD.n8 h3) ?_
  dsimp only
  refine RD.bind (RD.gots h6 h4) ?_
  dsimp only
  exact RD.listD (fun r acc i => (acc, r, i)) (fun r acc => (({ E := IntKind.i64.wrap x.E, Epoch := x.Epoch, Index := x.Index, Gots := x.Gots.map cGot, Scans := acc } : api_Reply), r)) x.Scans pairsB cPairs (by omega) (by decide) (fun l hl => RD.pairs (h5 l hl)) (pscans_step _ _ _ _) (pscans_end _ _ _ _) fun r => by rw [w]; rfl
theorem TT.reply : TT command_ReadReply replyG := by
  refine TT.of reply_eq ?_
  refine TT.bind TT.n1 fun a ha => ?_
  dsimp only
  refine TT.bind TT.n8 fun b hb => ?_
  dsimp only
  refine TT.bind TT.n8 fun d hd => ?_
  dsimp only
  refine TT.bind TT.gots fun g hg => ?_
  dsimp only
  have w : IntKind.i64.wrap a = a := by
    obtain ⟨a0, b0⟩ := ha
    rw [pw1] at b0
    rw [wrap_i64] <;> omega
  exact TT.listD (fun r acc i => (acc, r, i)) (fun r acc => (({ E := IntKind.i64.wrap a, Epoch := b, Index := d, Gots := g, Scans := acc } : api_Reply), r)) (by decide) (by decide) TT.pairs (pscans_step _ _ _ _) (pscans_end _ _ _ _) fun r acc h1 h2 => ⟨_, rfl, by rw [w]; exact ⟨ha, hb, hd, hg.2, h2, Int.ofNat_le.1 hg.1, Int.ofNat_le.1 h1⟩⟩
end Go.Proofs.Ytkfifhkjdibadaa
