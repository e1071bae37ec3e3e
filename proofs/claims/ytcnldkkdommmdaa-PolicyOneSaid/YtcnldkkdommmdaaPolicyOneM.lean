/- The models of the Go functions: plain Lean, no memory. -/
import Derived.Test.YtcnldkkdommmdaaGvSlice
set_option linter.unusedVariables false
set_option linter.unusedSimpArgs false
set_option maxRecDepth 100000
set_option maxHeartbeats 4000000
namespace Go.Proofs.Ytcnldkkdommmdaa
open Go Go.V
structure api_Rule where
  ID : Int
  From : Int
  To : Int
  Lo : Nat
  Hi : Nat
  Authority : Int
  Quota : Int

structure policy_line where
  r : api_Rule
  from_ : Int
  to_ : Int

structure policy_Book where
  l : (List policy_line)

noncomputable def policy_New : Option (policy_Book) :=
  (some ({ l := [] } : policy_Book))

noncomputable def policy_Book_Revoke_l0 (o0 : policy_Book) (a1 : Int) (a2 : Int) (s : (policy_Book × Int × Bool)) : Option ((policy_Book × Int × Bool) ⊕ (Bool × (Option policy_Book))) :=
  match s with | (z129, z130, z131) => (bif (decide (z130 < ((o0.l).length : Int))) then ((geto z129.l z130).bind fun x145 => (bif (x145.r.ID == a1) then (bif (x145.to_ == (0:Int)) then (some (Sum.inl (({ l := (z129.l.set z130.toNat ({ r := x145.r, from_ := x145.from_, to_ := (if (1:Int) > a2 then (1:Int) else a2) } : policy_line)) } : policy_Book), (IntKind.i64.wrap (z130 + (1:Int))), true))) else (some (Sum.inl (z129, (IntKind.i64.wrap (z130 + (1:Int))), z131)))) else (some (Sum.inl (z129, (IntKind.i64.wrap (z130 + (1:Int))), z131))))) else (inrO (some (z131, (some z129)))))
noncomputable def policy_Book_Revoke (a0 : (Option policy_Book)) (a1 : Int) (a2 : Int) : Option (Bool × (Option policy_Book)) :=
  (match a0 with | none => (some (false, none)) | some o0 => (loopO (policy_Book_Revoke_l0 o0 a1 a2) (o0, (0:Int), false)))

noncomputable def policy_Book_Grant (a0 : (Option policy_Book)) (a1 : api_Rule) (a2 : Int) : Option ((Option policy_Book)) :=
  (match a0 with | none => (some none) | some o0 => ((policy_Book_Revoke (some o0) a1.ID a2).bind fun t60 => (match t60.2 with | none => none | some y65 => (gd (room y65.l ([({ r := a1, from_ := a2, to_ := (0:Int) } : policy_line)])) (some (some ({ l := (y65.l ++ ([({ r := a1, from_ := a2, to_ := (0:Int) } : policy_line)])) } : policy_Book)))))))

noncomputable def policy_Book_At_l0 (o0 : policy_Book) (a1 : Int) (a2 : Int) (z194 : (Int)) : Option ((Int) ⊕ (api_Rule × Bool)) :=
  (bif (decide (z194 ≥ (0:Int))) then ((geto o0.l z194).bind fun x208 => (bif (x208.r.ID == a1) then (bif (decide (x208.from_ ≤ a2)) then (bif (x208.to_ == (0:Int)) then (inrO (some (x208.r, true))) else (bif (decide (x208.to_ > a2)) then (inrO (some (x208.r, true))) else (some (Sum.inl (IntKind.i64.wrap (z194 - (1:Int))))))) else (some (Sum.inl (IntKind.i64.wrap (z194 - (1:Int)))))) else (some (Sum.inl (IntKind.i64.wrap (z194 - (1:Int))))))) else (inrO (some (({ ID := (0:Int), From := (0:Int), To := (0:Int), Lo := (0:Nat), Hi := (0:Nat), Authority := (0:Int), Quota := (0:Int) } : api_Rule), false))))
noncomputable def policy_Book_At (a0 : (Option policy_Book)) (a1 : Int) (a2 : Int) : Option (api_Rule × Bool) :=
  (match a0 with | none => (some (({ ID := (0:Int), From := (0:Int), To := (0:Int), Lo := (0:Nat), Hi := (0:Nat), Authority := (0:Int), Quota := (0:Int) } : api_Rule), false)) | some o0 => (loopO (policy_Book_At_l0 o0 a1 a2) (IntKind.i64.wrap (((o0.l).length : Int) - (1:Int)))))

noncomputable def law15_awake : Option (Bool) :=
  (policy_New.bind fun t63 => ((policy_Book_Grant (some t63) ({ ID := (5:Int), From := (0:Int), To := (0:Int), Lo := (0:Nat), Hi := (0:Nat), Authority := (0:Int), Quota := (1:Int) } : api_Rule) (2:Int)).bind fun t70 => (match t70 with | none => none | some y75 => ((policy_Book_Revoke (some y75) (5:Int) (4:Int)).bind fun t77 => (match t77.2 with | none => none | some y82 => ((policy_Book_At (some y82) (5:Int) (1:Int)).bind fun t84 => ((policy_Book_At (some y82) (5:Int) (3:Int)).bind fun t96 => ((policy_Book_At (some y82) (5:Int) (4:Int)).bind fun t108 => (bif (!t84.2) then (bif t96.2 then (bif (t96.1.Quota == (1:Int)) then (some (!t108.2)) else (some false)) else (some false)) else (some false))))))))))

noncomputable def math_Signbit (a0 : Nat) : Option (Bool) :=
  (some (decide ((IntKind.i64.wrap (Int.ofNat a0)) < (0:Int))))

noncomputable def ref01_Ahead_j0 (a0 : Nat) (a1 : Nat) (_s : Unit) : Option (Bool) :=
  (some (fLt a0 a1))
noncomputable def ref01_Ahead (a0 : Nat) (a1 : Nat) : Option (Bool) :=
  (bif (fNe a0 a0) then (some false) else (bif (fNe a1 a1) then (some true) else (joinO (bif (fEq a0 (0:Nat)) then (bif (fEq a1 (0:Nat)) then ((math_Signbit a0).bind fun t107 => (bif t107 then ((math_Signbit a1).bind fun t113 => (inrO (some (!t113)))) else (inrO (some false)))) else (some (Sum.inl ()))) else (some (Sum.inl ()))) (ref01_Ahead_j0 a0 a1))))

noncomputable def ref01_Same (a0 : Nat) (a1 : Nat) : Option (Bool) :=
  ((ref01_Ahead a0 a1).bind fun t94 => (bif (!t94) then ((ref01_Ahead a1 a0).bind fun t100 => (some (!t100))) else (some false)))

noncomputable def ref11_SameRule (a0 : api_Rule) (a1 : api_Rule) : Option (Bool) :=
  (bif (a0.ID == a1.ID) then (bif (a0.From == a1.From) then (bif (a0.To == a1.To) then ((ref01_Same a0.Lo a1.Lo).bind fun t109 => (bif t109 then ((ref01_Same a0.Hi a1.Hi).bind fun t115 => (bif t115 then (bif (a0.Authority == a1.Authority) then (some (a0.Quota == a1.Quota)) else (some false)) else (some false))) else (some false))) else (some false)) else (some false)) else (some false))

noncomputable def law15_PolicyOne_j1 (a0 : (List api_Rule)) (z322 : Int) (z320 : policy_Book) (z338 : (Int)) : Option ((policy_Book × Int × Int) ⊕ (Bool)) :=
  ((geto a0 z322).bind fun x344 => (bif (decide (x344.From < (0:Int))) then (inrO (some true)) else (bif (decide (x344.From > (255:Int))) then (inrO (some true)) else (bif (decide (x344.To < (0:Int))) then (inrO (some true)) else (bif (decide (x344.To > (255:Int))) then (inrO (some true)) else (bif (decide (x344.Quota < (0:Int))) then (inrO (some true)) else (bif (decide (x344.Quota > (65536:Int))) then (inrO (some true)) else ((policy_Book_Grant (some z320) x344 z338).bind fun t355 => (match t355 with | none => none | some y360 => ((policy_Book_At (some y360) x344.ID z338).bind fun t362 => (bif (!t362.2) then (inrO (some false)) else ((ref11_SameRule t362.1 x344).bind fun t375 => (bif (!t375) then (inrO (some false)) else (some (Sum.inl (y360, z338, (IntKind.i64.wrap (z322 + (1:Int)))))))))))))))))))
noncomputable def law15_PolicyOne_l0 (a0 : (List api_Rule)) (a1 : (List Int)) (s : (policy_Book × Int × Int)) : Option ((policy_Book × Int × Int) ⊕ (Bool)) :=
  match s with | (z320, z321, z322) => (bif (decide (z322 < ((a0).length : Int))) then (((bif (decide (z322 < ((a1).length : Int))) then ((geto a1 z322).bind fun x333 => (some (IntKind.u64.wrap (z321 + (IntKind.u64.wrap (Int.tmod x333 (3:Int))))))) else (some z321))).bind (law15_PolicyOne_j1 a0 z322 z320)) else (inrO (some true)))
noncomputable def law15_PolicyOne (a0 : (List api_Rule)) (a1 : (List Int)) : Option (Bool) :=
  (law15_awake.bind fun t193 => (bif (!t193) then (law15_awake.bind fun t199 => (some t199)) else (bif (decide (((a0).length : Int) > (12:Int))) then (law15_awake.bind fun t205 => (some t205)) else (policy_New.bind fun t210 => (loopO (law15_PolicyOne_l0 a0 a1) (t210, (1:Int), (0:Int)))))))
end Go.Proofs.Ytcnldkkdommmdaa
