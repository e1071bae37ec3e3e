/- The models of the Go functions: plain Lean, no memory. -/
import Derived.Test.YtcnldkkdommmdaaGvSlice
set_option linter.unusedVariables false
set_option linter.unusedSimpArgs false
set_option maxRecDepth 100000
set_option maxHeartbeats 4000000
namespace Go.Proofs.Ytcnldkkdommmdaa
open Go Go.V
structure api_Rule where
  ID : Int
  From : Int
  To : Int
  Lo : Nat
  Hi : Nat
  Authority : Int
  Quota : Int

structure policy_line where
  r : api_Rule
  from_ : Int
  to_ : Int

structure policy_Book where
  l : (List policy_line)

structure ref12_Tape where
  L : (List Int)
  I : Int

structure ref11_Line where
  R : api_Rule
  From : Int
  To : Int

noncomputable def policy_New : Option (policy_Book) :=
  (some ({ l := [] } : policy_Book))

noncomputable def policy_Book_Revoke_l0 (o0 : policy_Book) (a1 : Int) (a2 : Int) (s : (policy_Book × Int × Bool)) : Option ((policy_Book × Int × Bool) ⊕ (Bool × (Option policy_Book))) :=
  match s with | (z128, z129, z130) => (bif (decide (z129 < ((o0.l).length : Int))) then ((geto z128.l z129).bind fun x144 => (bif (x144.r.ID == a1) then (bif (x144.to_ == (0:Int)) then (some (Sum.inl (({ l := (z128.l.set z129.toNat ({ r := x144.r, from_ := x144.from_, to_ := (if (1:Int) > a2 then (1:Int) else a2) } : policy_line)) } : policy_Book), (IntKind.i64.wrap (z129 + (1:Int))), true))) else (some (Sum.inl (z128, (IntKind.i64.wrap (z129 + (1:Int))), z130)))) else (some (Sum.inl (z128, (IntKind.i64.wrap (z129 + (1:Int))), z130))))) else (inrO (some (z130, (some z128)))))
noncomputable def policy_Book_Revoke (a0 : (Option policy_Book)) (a1 : Int) (a2 : Int) : Option (Bool × (Option policy_Book)) :=
  (match a0 with | none => (some (false, none)) | some o0 => (loopO (policy_Book_Revoke_l0 o0 a1 a2) (o0, (0:Int), false)))

noncomputable def policy_Book_Grant (a0 : (Option policy_Book)) (a1 : api_Rule) (a2 : Int) : Option ((Option policy_Book)) :=
  (match a0 with | none => (some none) | some o0 => ((policy_Book_Revoke (some o0) a1.ID a2).bind fun t59 => (match t59.2 with | none => none | some y64 => (gd (room y64.l ([({ r := a1, from_ := a2, to_ := (0:Int) } : policy_line)])) (some (some ({ l := (y64.l ++ ([({ r := a1, from_ := a2, to_ := (0:Int) } : policy_line)])) } : policy_Book)))))))

noncomputable def policy_Book_At_l0 (o0 : policy_Book) (a1 : Int) (a2 : Int) (z193 : (Int)) : Option ((Int) ⊕ (api_Rule × Bool)) :=
  (bif (decide (z193 ≥ (0:Int))) then ((geto o0.l z193).bind fun x207 => (bif (x207.r.ID == a1) then (bif (decide (x207.from_ ≤ a2)) then (bif (x207.to_ == (0:Int)) then (inrO (some (x207.r, true))) else (bif (decide (x207.to_ > a2)) then (inrO (some (x207.r, true))) else (some (Sum.inl (IntKind.i64.wrap (z193 - (1:Int))))))) else (some (Sum.inl (IntKind.i64.wrap (z193 - (1:Int)))))) else (some (Sum.inl (IntKind.i64.wrap (z193 - (1:Int))))))) else (inrO (some (({ ID := (0:Int), From := (0:Int), To := (0:Int), Lo := (0:Nat), Hi := (0:Nat), Authority := (0:Int), Quota := (0:Int) } : api_Rule), false))))
noncomputable def policy_Book_At (a0 : (Option policy_Book)) (a1 : Int) (a2 : Int) : Option (api_Rule × Bool) :=
  (match a0 with | none => (some (({ ID := (0:Int), From := (0:Int), To := (0:Int), Lo := (0:Nat), Hi := (0:Nat), Authority := (0:Int), Quota := (0:Int) } : api_Rule), false)) | some o0 => (loopO (policy_Book_At_l0 o0 a1 a2) (IntKind.i64.wrap (((o0.l).length : Int) - (1:Int)))))

noncomputable def law15_awake : Option (Bool) :=
  (policy_New.bind fun t62 => ((policy_Book_Grant (some t62) ({ ID := (5:Int), From := (0:Int), To := (0:Int), Lo := (0:Nat), Hi := (0:Nat), Authority := (0:Int), Quota := (1:Int) } : api_Rule) (2:Int)).bind fun t69 => (match t69 with | none => none | some y74 => ((policy_Book_Revoke (some y74) (5:Int) (4:Int)).bind fun t76 => (match t76.2 with | none => none | some y81 => ((policy_Book_At (some y81) (5:Int) (1:Int)).bind fun t83 => ((policy_Book_At (some y81) (5:Int) (3:Int)).bind fun t95 => ((policy_Book_At (some y81) (5:Int) (4:Int)).bind fun t107 => (bif (!t83.2) then (bif t95.2 then (bif (t95.1.Quota == (1:Int)) then (some (!t107.2)) else (some false)) else (some false)) else (some false))))))))))

noncomputable def ref12_Tape_Next (a0 : ref12_Tape) (a1 : Int) : Option (Int × ref12_Tape) :=
  (bif (decide (a0.I ≥ ((a0.L).length : Int))) then (some ((0:Int), a0)) else ((geto a0.L (IntKind.i64.wrap ((IntKind.i64.wrap (a0.I + (1:Int))) - (1:Int)))).bind fun x57 => (gd (!(a1 == (0:Int))) (some ((Int.tmod (IntKind.i64.wrap x57) a1), ({ L := a0.L, I := (IntKind.i64.wrap (a0.I + (1:Int))) } : ref12_Tape))))))

noncomputable def ref12_small (a0 : Int) : Option (Nat) :=
  ((geto ([(0:Nat), (4607182418800017408:Nat), (13830554455654793216:Nat), (4612811918334230528:Nat), (9094988921128908188:Nat), (18318360957983683996:Nat), (4602678819172646912:Nat), (4613937818241073152:Nat)]) (Int.tmod a0 (8:Int))).bind fun x94 => (some x94))

noncomputable def ref12_Tape_Float (a0 : ref12_Tape) : Option (Nat × ref12_Tape) :=
  ((ref12_Tape_Next a0 (8:Int)).bind fun t85 => ((ref12_small (IntKind.u8.wrap t85.1)).bind fun t90 => (some (t90, t85.2))))

noncomputable def ref13_OfRule (a0 : ref12_Tape) : Option (api_Rule × ref12_Tape) :=
  ((ref12_Tape_Next a0 (3:Int)).bind fun t101 => ((ref12_Tape_Next t101.2 (4:Int)).bind fun t106 => ((ref12_Tape_Next t106.2 (4:Int)).bind fun t111 => ((ref12_Tape_Float t111.2).bind fun t116 => ((ref12_Tape_Float t116.2).bind fun t121 => ((ref12_Tape_Next t121.2 (2:Int)).bind fun t126 => ((ref12_Tape_Next t126.2 (3:Int)).bind fun t131 => (some (({ ID := (IntKind.u64.wrap t101.1), From := t106.1, To := t111.1, Lo := t116.1, Hi := t121.1, Authority := (IntKind.u64.wrap t126.1), Quota := t131.1 } : api_Rule), t131.2)))))))))

noncomputable def ref11_Revoke_j3 (z354 : (List ref11_Line)) (x367 : ref11_Line) (z353 : Int) (s : (Bool × Int)) : Option ((Int × (List ref11_Line) × Bool) ⊕ ((List ref11_Line) × Bool)) :=
  match s with | (z383, z384) => (gd (room z354 ([({ R := x367.R, From := x367.From, To := z384 } : ref11_Line)])) (some (Sum.inl ((IntKind.i64.wrap (z353 + (1:Int))), (z354 ++ ([({ R := x367.R, From := x367.From, To := z384 } : ref11_Line)])), z383))))
noncomputable def ref11_Revoke_l2 (a0 : (List ref11_Line)) (a1 : Int) (z243 : Int) (s : (Int × (List ref11_Line) × Bool)) : Option ((Int × (List ref11_Line) × Bool) ⊕ ((List ref11_Line) × Bool)) :=
  match s with | (z353, z354, z357) => (bif (decide (z353 < ((a0).length : Int))) then ((geto a0 z353).bind fun x367 => (((bif (x367.R.ID == a1) then (bif (x367.To == (0:Int)) then (some (true, z243)) else (some (z357, x367.To))) else (some (z357, x367.To)))).bind (ref11_Revoke_j3 z354 x367 z353))) else (inrO (some (z354, z357))))
noncomputable def ref11_Revoke_j1 (s : ((List ref11_Line) × Bool)) : Option ((List ref11_Line) × Bool) :=
  match s with | (z401, z402) => (some (z401, z402))
noncomputable def ref11_Revoke_j0 (a0 : (List ref11_Line)) (a1 : Int) (z243 : (Int)) : Option ((List ref11_Line) × Bool) :=
  (((loopO (ref11_Revoke_l2 a0 a1 z243) ((0:Int), [], false))).bind (ref11_Revoke_j1))
noncomputable def ref11_Revoke (a0 : (List ref11_Line)) (a1 : Int) (a2 : Int) : Option ((List ref11_Line) × Bool) :=
  (((bif (a2 == (0:Int)) then (some (1:Int)) else (some a2))).bind (ref11_Revoke_j0 a0 a1))

noncomputable def policy_Book_Len (a0 : (Option policy_Book)) : Option (Int) :=
  (match a0 with | none => (some (0:Int)) | some o0 => (some ((o0.l).length : Int)))

noncomputable def ref11_At_l1 (a0 : (List ref11_Line)) (a1 : Int) (a2 : Int) (s : (Int × Int × Int × Nat × Nat × Int × Int × Int × Bool)) : Option ((Int × Int × Int × Nat × Nat × Int × Int × Int × Bool) ⊕ (Int × Int × Int × Nat × Nat × Int × Int × Bool)) :=
  match s with | (z290, z291, z292, z293, z294, z295, z296, z297, z298) => (bif (decide (z297 < ((a0).length : Int))) then ((geto a0 z297).bind fun x308 => (bif (x308.R.ID == a1) then (bif (decide (x308.From ≤ a2)) then (bif (x308.To == (0:Int)) then (some (Sum.inl (x308.R.ID, x308.R.From, x308.R.To, x308.R.Lo, x308.R.Hi, x308.R.Authority, x308.R.Quota, (IntKind.i64.wrap (z297 + (1:Int))), true))) else (bif (decide (a2 < x308.To)) then (some (Sum.inl (x308.R.ID, x308.R.From, x308.R.To, x308.R.Lo, x308.R.Hi, x308.R.Authority, x308.R.Quota, (IntKind.i64.wrap (z297 + (1:Int))), true))) else (some (Sum.inl (z290, z291, z292, z293, z294, z295, z296, (IntKind.i64.wrap (z297 + (1:Int))), z298))))) else (some (Sum.inl (z290, z291, z292, z293, z294, z295, z296, (IntKind.i64.wrap (z297 + (1:Int))), z298)))) else (some (Sum.inl (z290, z291, z292, z293, z294, z295, z296, (IntKind.i64.wrap (z297 + (1:Int))), z298))))) else (inrO (some (z290, z291, z292, z293, z294, z295, z296, z298))))
noncomputable def ref11_At_j0 (s : (Int × Int × Int × Nat × Nat × Int × Int × Bool)) : Option (api_Rule × Bool) :=
  match s with | (z321, z322, z323, z324, z325, z326, z327, z328) => (some (({ ID := z321, From := z322, To := z323, Lo := z324, Hi := z325, Authority := z326, Quota := z327 } : api_Rule), z328))
noncomputable def ref11_At (a0 : (List ref11_Line)) (a1 : Int) (a2 : Int) : Option (api_Rule × Bool) :=
  (((loopO (ref11_At_l1 a0 a1 a2) ((0:Int), (0:Int), (0:Int), (0:Nat), (0:Nat), (0:Int), (0:Int), (0:Int), false))).bind (ref11_At_j0))

noncomputable def math_Signbit (a0 : Nat) : Option (Bool) :=
  (some (decide ((IntKind.i64.wrap (Int.ofNat a0)) < (0:Int))))

noncomputable def ref01_Ahead_j0 (a0 : Nat) (a1 : Nat) (_s : Unit) : Option (Bool) :=
  (some (fLt a0 a1))
noncomputable def ref01_Ahead (a0 : Nat) (a1 : Nat) : Option (Bool) :=
  (bif (fNe a0 a0) then (some false) else (bif (fNe a1 a1) then (some true) else (joinO (bif (fEq a0 (0:Nat)) then (bif (fEq a1 (0:Nat)) then ((math_Signbit a0).bind fun t194 => (bif t194 then ((math_Signbit a1).bind fun t200 => (inrO (some (!t200)))) else (inrO (some false)))) else (some (Sum.inl ()))) else (some (Sum.inl ()))) (ref01_Ahead_j0 a0 a1))))

noncomputable def ref01_Same (a0 : Nat) (a1 : Nat) : Option (Bool) :=
  ((ref01_Ahead a0 a1).bind fun t181 => (bif (!t181) then ((ref01_Ahead a1 a0).bind fun t187 => (some (!t187))) else (some false)))

noncomputable def ref11_SameRule (a0 : api_Rule) (a1 : api_Rule) : Option (Bool) :=
  (bif (a0.ID == a1.ID) then (bif (a0.From == a1.From) then (bif (a0.To == a1.To) then ((ref01_Same a0.Lo a1.Lo).bind fun t196 => (bif t196 then ((ref01_Same a0.Hi a1.Hi).bind fun t202 => (bif t202 then (bif (a0.Authority == a1.Authority) then (some (a0.Quota == a1.Quota)) else (some false)) else (some false))) else (some false))) else (some false)) else (some false)) else (some false))

noncomputable def law15_told_l1 (z1036 : Int) (a1 : (List ref11_Line)) (z1113 : (Int)) : Option ((Int) ⊕ ((Int) ⊕ (Bool))) :=
  (bif (decide (z1113 < (9:Int))) then ((policy_Book_At none z1036 z1113).bind fun t1124 => ((ref11_At a1 z1036 z1113).bind fun t1136 => (bif (!(t1124.2 == t1136.2)) then (inrO (inrO (some false))) else ((ref11_SameRule t1124.1 t1136.1).bind fun t1149 => (bif (!t1149) then (inrO (inrO (some false))) else (some (Sum.inl (IntKind.u64.wrap (z1113 + (1:Int)))))))))) else (inrO (some (Sum.inl (IntKind.u64.wrap (z1036 + (1:Int)))))))
noncomputable def law15_told_l0 (a1 : (List ref11_Line)) (z1036 : (Int)) : Option ((Int) ⊕ (Bool)) :=
  (bif (decide (z1036 < (4:Int))) then (loopO (law15_told_l1 z1036 a1) (0:Int)) else (inrO (some true)))
noncomputable def law15_told_l3 (o0 : policy_Book) (z1376 : Int) (a1 : (List ref11_Line)) (z1451 : (Int)) : Option ((Int) ⊕ ((Int) ⊕ (Bool))) :=
  (bif (decide (z1451 < (9:Int))) then ((policy_Book_At (some o0) z1376 z1451).bind fun t1461 => ((ref11_At a1 z1376 z1451).bind fun t1473 => (bif (!(t1461.2 == t1473.2)) then (inrO (inrO (some false))) else ((ref11_SameRule t1461.1 t1473.1).bind fun t1486 => (bif (!t1486) then (inrO (inrO (some false))) else (some (Sum.inl (IntKind.u64.wrap (z1451 + (1:Int)))))))))) else (inrO (some (Sum.inl (IntKind.u64.wrap (z1376 + (1:Int)))))))
noncomputable def law15_told_l2 (o0 : policy_Book) (a1 : (List ref11_Line)) (z1376 : (Int)) : Option ((Int) ⊕ (Bool)) :=
  (bif (decide (z1376 < (4:Int))) then (loopO (law15_told_l3 o0 z1376 a1) (0:Int)) else (inrO (some true)))
noncomputable def law15_told (a0 : (Option policy_Book)) (a1 : (List ref11_Line)) : Option (Bool) :=
  (match a0 with | none => ((policy_Book_Len none).bind fun t809 => (bif (t809 != ((a1).length : Int)) then (some false) else (loopO (law15_told_l0 a1) (0:Int)))) | some o0 => ((policy_Book_Len (some o0)).bind fun t1155 => (bif (t1155 != ((a1).length : Int)) then (some false) else (loopO (law15_told_l2 o0 a1) (0:Int)))))

noncomputable def law15_PolicyPlays_j2 (z797 : Int) (z775 : Int) (s : (ref12_Tape × policy_Book × (List ref11_Line))) : Option ((ref12_Tape × policy_Book × (List ref11_Line) × Int × Int) ⊕ (Bool)) :=
  match s with | (z863, z864, z867) => ((law15_told (some z864) z867).bind fun t875 => (bif (!t875) then (inrO (some false)) else (some (Sum.inl (z863, z864, z867, z797, (IntKind.i64.wrap (z775 + (1:Int))))))))
noncomputable def law15_PolicyPlays_j1 (z771 : (List ref11_Line)) (z770 : policy_Book) (z775 : Int) (s : (ref12_Tape × Int)) : Option ((ref12_Tape × policy_Book × (List ref11_Line) × Int × Int) ⊕ (Bool)) :=
  match s with | (z796, z797) => ((ref13_OfRule z796).bind fun t803 => (joinO ((ref12_Tape_Next t803.2 (3:Int)).bind fun t815 => (bif (t815.1 == (0:Int)) then ((ref11_Revoke z771 t803.1.ID z797).bind fun t823 => ((policy_Book_Revoke (some z770) t803.1.ID z797).bind fun t830 => (match t830.2 with | none => none | some y835 => (bif (!(t830.1 == t823.2)) then (inrO (inrO (some false))) else (some (Sum.inl (t815.2, y835, t823.1))))))) else ((ref11_Revoke z771 t803.1.ID z797).bind fun t840 => (gd (room t840.1 ([({ R := t803.1, From := z797, To := (0:Int) } : ref11_Line)])) ((policy_Book_Grant (some z770) t803.1 z797).bind fun t856 => (match t856 with | none => none | some y861 => (some (Sum.inl (t815.2, y861, (t840.1 ++ ([({ R := t803.1, From := z797, To := (0:Int) } : ref11_Line)]))))))))))) (law15_PolicyPlays_j2 z797 z775)))
noncomputable def law15_PolicyPlays_l0 (a1 : Bool) (s : (ref12_Tape × policy_Book × (List ref11_Line) × Int × Int)) : Option ((ref12_Tape × policy_Book × (List ref11_Line) × Int × Int) ⊕ (Bool)) :=
  match s with | (z769, z770, z771, z774, z775) => (bif (decide (z775 < (20:Int))) then (((bif a1 then ((ref12_Tape_Next z769 (2:Int)).bind fun t786 => (some (t786.2, (IntKind.u64.wrap (z774 + (IntKind.u64.wrap t786.1)))))) else ((ref12_Tape_Next z769 (7:Int)).bind fun t791 => (some (t791.2, (IntKind.u64.wrap t791.1)))))).bind (law15_PolicyPlays_j1 z771 z770 z775)) else (inrO (some true)))
noncomputable def law15_PolicyPlays (a0 : (List Int)) (a1 : Bool) : Option (Bool) :=
  (law15_awake.bind fun t442 => (bif (!t442) then (law15_awake.bind fun t448 => (some t448)) else (bif (decide (((a0).length : Int) > (400:Int))) then (law15_awake.bind fun t454 => (some t454)) else (policy_New.bind fun t465 => (loopO (law15_PolicyPlays_l0 a1) (({ L := a0, I := (0:Int) } : ref12_Tape), t465, [], (1:Int), (0:Int)))))))
end Go.Proofs.Ytcnldkkdommmdaa
