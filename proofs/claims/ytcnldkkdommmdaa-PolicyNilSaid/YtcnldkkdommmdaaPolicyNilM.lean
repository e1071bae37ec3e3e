/- The models of the Go functions: plain Lean, no memory. -/
import Derived.Test.YtcnldkkdommmdaaGvSlice
set_option linter.unusedVariables false
set_option linter.unusedSimpArgs false
set_option maxRecDepth 100000
set_option maxHeartbeats 4000000
namespace Go.Proofs.Ytcnldkkdommmdaa
open Go Go.V
structure api_Rule where
  ID : Int
  From : Int
  To : Int
  Lo : Nat
  Hi : Nat
  Authority : Int
  Quota : Int

structure policy_line where
  r : api_Rule
  from_ : Int
  to_ : Int

structure policy_Book where
  l : (List policy_line)

noncomputable def policy_Book_Revoke_l0 (o0 : policy_Book) (a1 : Int) (a2 : Int) (s : (policy_Book × Int × Bool)) : Option ((policy_Book × Int × Bool) ⊕ (Bool × (Option policy_Book))) :=
  match s with | (z125, z126, z127) => (bif (decide (z126 < ((o0.l).length : Int))) then ((geto z125.l z126).bind fun x141 => (bif (x141.r.ID == a1) then (bif (x141.to_ == (0:Int)) then (some (Sum.inl (({ l := (z125.l.set z126.toNat ({ r := x141.r, from_ := x141.from_, to_ := (if (1:Int) > a2 then (1:Int) else a2) } : policy_line)) } : policy_Book), (IntKind.i64.wrap (z126 + (1:Int))), true))) else (some (Sum.inl (z125, (IntKind.i64.wrap (z126 + (1:Int))), z127)))) else (some (Sum.inl (z125, (IntKind.i64.wrap (z126 + (1:Int))), z127))))) else (inrO (some (z127, (some z125)))))
noncomputable def policy_Book_Revoke (a0 : (Option policy_Book)) (a1 : Int) (a2 : Int) : Option (Bool × (Option policy_Book)) :=
  (match a0 with | none => (some (false, none)) | some o0 => (loopO (policy_Book_Revoke_l0 o0 a1 a2) (o0, (0:Int), false)))

noncomputable def policy_Book_Grant (a0 : (Option policy_Book)) (a1 : api_Rule) (a2 : Int) : Option ((Option policy_Book)) :=
  (match a0 with | none => (some none) | some o0 => ((policy_Book_Revoke (some o0) a1.ID a2).bind fun t188 => (match t188.2 with | none => none | some y193 => (gd (room y193.l ([({ r := a1, from_ := a2, to_ := (0:Int) } : policy_line)])) (some (some ({ l := (y193.l ++ ([({ r := a1, from_ := a2, to_ := (0:Int) } : policy_line)])) } : policy_Book)))))))

noncomputable def policy_Book_At_l0 (o0 : policy_Book) (a1 : Int) (a2 : Int) (z386 : (Int)) : Option ((Int) ⊕ (api_Rule × Bool)) :=
  (bif (decide (z386 ≥ (0:Int))) then ((geto o0.l z386).bind fun x400 => (bif (x400.r.ID == a1) then (bif (decide (x400.from_ ≤ a2)) then (bif (x400.to_ == (0:Int)) then (inrO (some (x400.r, true))) else (bif (decide (x400.to_ > a2)) then (inrO (some (x400.r, true))) else (some (Sum.inl (IntKind.i64.wrap (z386 - (1:Int))))))) else (some (Sum.inl (IntKind.i64.wrap (z386 - (1:Int)))))) else (some (Sum.inl (IntKind.i64.wrap (z386 - (1:Int))))))) else (inrO (some (({ ID := (0:Int), From := (0:Int), To := (0:Int), Lo := (0:Nat), Hi := (0:Nat), Authority := (0:Int), Quota := (0:Int) } : api_Rule), false))))
noncomputable def policy_Book_At (a0 : (Option policy_Book)) (a1 : Int) (a2 : Int) : Option (api_Rule × Bool) :=
  (match a0 with | none => (some (({ ID := (0:Int), From := (0:Int), To := (0:Int), Lo := (0:Nat), Hi := (0:Nat), Authority := (0:Int), Quota := (0:Int) } : api_Rule), false)) | some o0 => (loopO (policy_Book_At_l0 o0 a1 a2) (IntKind.i64.wrap (((o0.l).length : Int) - (1:Int)))))

noncomputable def policy_New : Option (Option policy_Book) :=
  (some (some ({ l := [] } : policy_Book)))

noncomputable def law15_awake : Option (Bool) :=
  (policy_New.bind fun t565 => (match t565 with | none => ((policy_Book_Grant none ({ ID := (5:Int), From := (0:Int), To := (0:Int), Lo := (0:Nat), Hi := (0:Nat), Authority := (0:Int), Quota := (1:Int) } : api_Rule) (2:Int)).bind fun t575 => ((policy_Book_Revoke none (5:Int) (4:Int)).bind fun t581 => ((policy_Book_At none (5:Int) (1:Int)).bind fun t587 => ((policy_Book_At none (5:Int) (3:Int)).bind fun t600 => ((policy_Book_At none (5:Int) (4:Int)).bind fun t613 => (bif (!t587.2) then (bif t600.2 then (bif (t600.1.Quota == (1:Int)) then (some (!t613.2)) else (some false)) else (some false)) else (some false))))))) | some y572 => ((policy_Book_Grant (some y572) ({ ID := (5:Int), From := (0:Int), To := (0:Int), Lo := (0:Nat), Hi := (0:Nat), Authority := (0:Int), Quota := (1:Int) } : api_Rule) (2:Int)).bind fun t628 => (match t628 with | none => none | some y633 => ((policy_Book_Revoke (some y633) (5:Int) (4:Int)).bind fun t635 => (match t635.2 with | none => none | some y640 => ((policy_Book_At (some y640) (5:Int) (1:Int)).bind fun t642 => ((policy_Book_At (some y640) (5:Int) (3:Int)).bind fun t654 => ((policy_Book_At (some y640) (5:Int) (4:Int)).bind fun t666 => (bif (!t642.2) then (bif t654.2 then (bif (t654.1.Quota == (1:Int)) then (some (!t666.2)) else (some false)) else (some false)) else (some false)))))))))))

noncomputable def policy_Book_Len (a0 : (Option policy_Book)) : Option (Int) :=
  (match a0 with | none => (some (0:Int)) | some o0 => (some ((o0.l).length : Int)))

noncomputable def law15_PolicyNil (a0 : api_Rule) (a1 : Int) (a2 : Int) : Option (Bool) :=
  ((policy_Book_Grant none a0 a2).bind fun t715 => ((policy_Book_At none a1 a2).bind fun t721 => (law15_awake.bind fun t733 => (bif t733 then (bif (!t721.2) then ((policy_Book_Revoke none a1 a2).bind fun t741 => (bif (!t741.1) then ((policy_Book_Len none).bind fun t748 => (some (t748 == (0:Int)))) else (some false))) else (some false)) else (some false)))))
end Go.Proofs.Ytcnldkkdommmdaa
