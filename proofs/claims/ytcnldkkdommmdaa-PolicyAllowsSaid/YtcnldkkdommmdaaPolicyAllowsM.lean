/- The models of the Go functions: plain Lean, no memory. -/
import Derived.Test.YtcnldkkdommmdaaGvSlice
set_option linter.unusedVariables false
set_option linter.unusedSimpArgs false
set_option maxRecDepth 100000
set_option maxHeartbeats 4000000
namespace Go.Proofs.Ytcnldkkdommmdaa
open Go Go.V
structure api_Rule where
  ID : Int
  From : Int
  To : Int
  Lo : Nat
  Hi : Nat
  Authority : Int
  Quota : Int

structure api_Release where
  Session : Int
  Seq : Int
  Label : Int
  At : Nat
  To : Int
  Rule : Int
  Authority : Int

structure policy_line where
  r : api_Rule
  from_ : Int
  to_ : Int

structure policy_Book where
  l : (List policy_line)

noncomputable def math_Signbit (a0 : Nat) : Option (Bool) :=
  (some (decide ((IntKind.i64.wrap (Int.ofNat a0)) < (0:Int))))

noncomputable def ref01_Ahead_j0 (a0 : Nat) (a1 : Nat) (_s : Unit) : Option (Bool) :=
  (some (fLt a0 a1))
noncomputable def ref01_Ahead (a0 : Nat) (a1 : Nat) : Option (Bool) :=
  (bif (fNe a0 a0) then (some false) else (bif (fNe a1 a1) then (some true) else (joinO (bif (fEq a0 (0:Nat)) then (bif (fEq a1 (0:Nat)) then ((math_Signbit a0).bind fun t66 => (bif t66 then ((math_Signbit a1).bind fun t72 => (inrO (some (!t72)))) else (inrO (some false)))) else (some (Sum.inl ()))) else (some (Sum.inl ()))) (ref01_Ahead_j0 a0 a1))))

noncomputable def ref01_Within (a0 : Nat) (a1 : Nat) (a2 : Nat) : Option (Bool) :=
  ((ref01_Ahead a0 a1).bind fun t53 => (bif (!t53) then ((ref01_Ahead a2 a0).bind fun t59 => (some (!t59))) else (some false)))

noncomputable def policy_New : Option (policy_Book) :=
  (some ({ l := [] } : policy_Book))

noncomputable def policy_Book_Revoke_l0 (o0 : policy_Book) (a1 : Int) (a2 : Int) (s : (policy_Book × Int × Bool)) : Option ((policy_Book × Int × Bool) ⊕ (Bool × (Option policy_Book))) :=
  match s with | (z179, z180, z181) => (bif (decide (z180 < ((o0.l).length : Int))) then ((geto z179.l z180).bind fun x195 => (bif (x195.r.ID == a1) then (bif (x195.to_ == (0:Int)) then (some (Sum.inl (({ l := (z179.l.set z180.toNat ({ r := x195.r, from_ := x195.from_, to_ := (if (1:Int) > a2 then (1:Int) else a2) } : policy_line)) } : policy_Book), (IntKind.i64.wrap (z180 + (1:Int))), true))) else (some (Sum.inl (z179, (IntKind.i64.wrap (z180 + (1:Int))), z181)))) else (some (Sum.inl (z179, (IntKind.i64.wrap (z180 + (1:Int))), z181))))) else (inrO (some (z181, (some z179)))))
noncomputable def policy_Book_Revoke (a0 : (Option policy_Book)) (a1 : Int) (a2 : Int) : Option (Bool × (Option policy_Book)) :=
  (match a0 with | none => (some (false, none)) | some o0 => (loopO (policy_Book_Revoke_l0 o0 a1 a2) (o0, (0:Int), false)))

noncomputable def policy_Book_Grant (a0 : (Option policy_Book)) (a1 : api_Rule) (a2 : Int) : Option ((Option policy_Book)) :=
  (match a0 with | none => (some none) | some o0 => ((policy_Book_Revoke (some o0) a1.ID a2).bind fun t110 => (match t110.2 with | none => none | some y115 => (gd (room y115.l ([({ r := a1, from_ := a2, to_ := (0:Int) } : policy_line)])) (some (some ({ l := (y115.l ++ ([({ r := a1, from_ := a2, to_ := (0:Int) } : policy_line)])) } : policy_Book)))))))

noncomputable def policy_Book_At_l0 (o0 : policy_Book) (a1 : Int) (a2 : Int) (z244 : (Int)) : Option ((Int) ⊕ (api_Rule × Bool)) :=
  (bif (decide (z244 ≥ (0:Int))) then ((geto o0.l z244).bind fun x258 => (bif (x258.r.ID == a1) then (bif (decide (x258.from_ ≤ a2)) then (bif (x258.to_ == (0:Int)) then (inrO (some (x258.r, true))) else (bif (decide (x258.to_ > a2)) then (inrO (some (x258.r, true))) else (some (Sum.inl (IntKind.i64.wrap (z244 - (1:Int))))))) else (some (Sum.inl (IntKind.i64.wrap (z244 - (1:Int)))))) else (some (Sum.inl (IntKind.i64.wrap (z244 - (1:Int))))))) else (inrO (some (({ ID := (0:Int), From := (0:Int), To := (0:Int), Lo := (0:Nat), Hi := (0:Nat), Authority := (0:Int), Quota := (0:Int) } : api_Rule), false))))
noncomputable def policy_Book_At (a0 : (Option policy_Book)) (a1 : Int) (a2 : Int) : Option (api_Rule × Bool) :=
  (match a0 with | none => (some (({ ID := (0:Int), From := (0:Int), To := (0:Int), Lo := (0:Nat), Hi := (0:Nat), Authority := (0:Int), Quota := (0:Int) } : api_Rule), false)) | some o0 => (loopO (policy_Book_At_l0 o0 a1 a2) (IntKind.i64.wrap (((o0.l).length : Int) - (1:Int)))))

noncomputable def law15_awake : Option (Bool) :=
  (policy_New.bind fun t113 => ((policy_Book_Grant (some t113) ({ ID := (5:Int), From := (0:Int), To := (0:Int), Lo := (0:Nat), Hi := (0:Nat), Authority := (0:Int), Quota := (1:Int) } : api_Rule) (2:Int)).bind fun t120 => (match t120 with | none => none | some y125 => ((policy_Book_Revoke (some y125) (5:Int) (4:Int)).bind fun t127 => (match t127.2 with | none => none | some y132 => ((policy_Book_At (some y132) (5:Int) (1:Int)).bind fun t134 => ((policy_Book_At (some y132) (5:Int) (3:Int)).bind fun t146 => ((policy_Book_At (some y132) (5:Int) (4:Int)).bind fun t158 => (bif (!t134.2) then (bif t146.2 then (bif (t146.1.Quota == (1:Int)) then (some (!t158.2)) else (some false)) else (some false)) else (some false))))))))))

noncomputable def math_IsNaN (a0 : Nat) : Option (Bool) :=
  (some (fNe a0 a0))

noncomputable def number_Rank (a0 : Nat) : Option (Int) :=
  ((math_IsNaN a0).bind fun t80 => (bif t80 then (some (18446744073709551615:Int)) else (bif ((iShr .u64 (Int.ofNat a0) (63:Int)) == (1:Int)) then (some (bXor .u64 ((18446744073709551615):Int) (Int.ofNat a0))) else (some (bOr .u64 (Int.ofNat a0) (9223372036854775808:Int))))))

noncomputable def number_Within (a0 : Nat) (a1 : Nat) (a2 : Nat) : Option (Bool) :=
  ((number_Rank a1).bind fun t94 => ((number_Rank a0).bind fun t99 => (bif (decide (t94 ≤ t99)) then ((number_Rank a0).bind fun t105 => ((number_Rank a2).bind fun t110 => (some (decide (t105 ≤ t110))))) else (some false))))

noncomputable def policy_Allows (a0 : api_Rule) (a1 : api_Release) : Option (Bool) :=
  (bif (a0.ID == a1.Rule) then (bif (a0.From == a1.Label) then (bif (a0.To == a1.To) then (bif (a0.Authority == a1.Authority) then ((number_Within a1.At a0.Lo a0.Hi).bind fun t92 => (some t92)) else (some false)) else (some false)) else (some false)) else (some false))

noncomputable def law15_PolicyAllows_j2 (a0 : api_Rule) (a1 : api_Release) (z83 : Int) (z95 : Nat) (z84 : Int) (z85 : Int) (z86 : Int) (z110 : (Bool)) : Option (Bool) :=
  (law15_awake.bind fun t116 => (bif t116 then ((policy_Allows a0 ({ Session := a1.Session, Seq := a1.Seq, Label := z83, At := z95, To := z84, Rule := z85, Authority := z86 } : api_Release)).bind fun t122 => (some (t122 == z110))) else (some false)))
noncomputable def law15_PolicyAllows_j1 (a0 : api_Rule) (z85 : Int) (z83 : Int) (z84 : Int) (z86 : Int) (a1 : api_Release) (z95 : (Nat)) : Option (Bool) :=
  (((bif (a0.ID == z85) then (bif (a0.From == z83) then (bif (a0.To == z84) then (bif (a0.Authority == z86) then ((ref01_Within z95 a0.Lo a0.Hi).bind fun t105 => (some t105)) else (some false)) else (some false)) else (some false)) else (some false))).bind (law15_PolicyAllows_j2 a0 a1 z83 z95 z84 z85 z86))
noncomputable def law15_PolicyAllows_j0 (a2 : Int) (a0 : api_Rule) (a1 : api_Release) (s : (Int × Int × Int × Int)) : Option (Bool) :=
  match s with | (z83, z84, z85, z86) => (((bif ((Int.tmod a2 (3:Int)) == (0:Int)) then (some a0.Lo) else (some a1.At))).bind (law15_PolicyAllows_j1 a0 z85 z83 z84 z86 a1))
noncomputable def law15_PolicyAllows (a0 : api_Rule) (a1 : api_Release) (a2 : Int) : Option (Bool) :=
  (((bif ((Int.tmod a2 (2:Int)) == (0:Int)) then (some (a0.From, a0.To, a0.ID, a0.Authority)) else (some (a1.Label, a1.To, a1.Rule, a1.Authority)))).bind (law15_PolicyAllows_j0 a2 a0 a1))
end Go.Proofs.Ytcnldkkdommmdaa
