/- The models of the Go functions: plain Lean, no memory. -/
import Derived.Test.YtcnldkkdommmdaaGvSlice
set_option linter.unusedVariables false
set_option linter.unusedSimpArgs false
set_option maxRecDepth 100000
set_option maxHeartbeats 4000000
namespace Go.Proofs.Ytcnldkkdommmdaa
open Go Go.V
structure api_Rule where
  ID : Int
  From : Int
  To : Int
  Lo : Nat
  Hi : Nat
  Authority : Int
  Quota : Int

structure policy_line where
  r : api_Rule
  from_ : Int
  to_ : Int

structure policy_Book where
  l : (List policy_line)

structure ref12_Tape where
  L : (List Int)
  I : Int

structure ref11_Line where
  R : api_Rule
  From : Int
  To : Int

structure octet_Writer where
  p : (List Int)

structure octet_Reader where
  p : (List Int)
  bad : Bool

noncomputable def policy_New : Option (policy_Book) :=
  (some ({ l := [] } : policy_Book))

noncomputable def policy_Book_Revoke_l0 (o0 : policy_Book) (a1 : Int) (a2 : Int) (s : (policy_Book × Int × Bool)) : Option ((policy_Book × Int × Bool) ⊕ (Bool × (Option policy_Book))) :=
  match s with | (z129, z130, z131) => (bif (decide (z130 < ((o0.l).length : Int))) then ((geto z129.l z130).bind fun x145 => (bif (x145.r.ID == a1) then (bif (x145.to_ == (0:Int)) then (some (Sum.inl (({ l := (z129.l.set z130.toNat ({ r := x145.r, from_ := x145.from_, to_ := (if (1:Int) > a2 then (1:Int) else a2) } : policy_line)) } : policy_Book), (IntKind.i64.wrap (z130 + (1:Int))), true))) else (some (Sum.inl (z129, (IntKind.i64.wrap (z130 + (1:Int))), z131)))) else (some (Sum.inl (z129, (IntKind.i64.wrap (z130 + (1:Int))), z131))))) else (inrO (some (z131, (some z129)))))
noncomputable def policy_Book_Revoke (a0 : (Option policy_Book)) (a1 : Int) (a2 : Int) : Option (Bool × (Option policy_Book)) :=
  (match a0 with | none => (some (false, none)) | some o0 => (loopO (policy_Book_Revoke_l0 o0 a1 a2) (o0, (0:Int), false)))

noncomputable def policy_Book_Grant (a0 : (Option policy_Book)) (a1 : api_Rule) (a2 : Int) : Option ((Option policy_Book)) :=
  (match a0 with | none => (some none) | some o0 => ((policy_Book_Revoke (some o0) a1.ID a2).bind fun t60 => (match t60.2 with | none => none | some y65 => (gd (room y65.l ([({ r := a1, from_ := a2, to_ := (0:Int) } : policy_line)])) (some (some ({ l := (y65.l ++ ([({ r := a1, from_ := a2, to_ := (0:Int) } : policy_line)])) } : policy_Book)))))))

noncomputable def policy_Book_At_l0 (o0 : policy_Book) (a1 : Int) (a2 : Int) (z194 : (Int)) : Option ((Int) ⊕ (api_Rule × Bool)) :=
  (bif (decide (z194 ≥ (0:Int))) then ((geto o0.l z194).bind fun x208 => (bif (x208.r.ID == a1) then (bif (decide (x208.from_ ≤ a2)) then (bif (x208.to_ == (0:Int)) then (inrO (some (x208.r, true))) else (bif (decide (x208.to_ > a2)) then (inrO (some (x208.r, true))) else (some (Sum.inl (IntKind.i64.wrap (z194 - (1:Int))))))) else (some (Sum.inl (IntKind.i64.wrap (z194 - (1:Int)))))) else (some (Sum.inl (IntKind.i64.wrap (z194 - (1:Int))))))) else (inrO (some (({ ID := (0:Int), From := (0:Int), To := (0:Int), Lo := (0:Nat), Hi := (0:Nat), Authority := (0:Int), Quota := (0:Int) } : api_Rule), false))))
noncomputable def policy_Book_At (a0 : (Option policy_Book)) (a1 : Int) (a2 : Int) : Option (api_Rule × Bool) :=
  (match a0 with | none => (some (({ ID := (0:Int), From := (0:Int), To := (0:Int), Lo := (0:Nat), Hi := (0:Nat), Authority := (0:Int), Quota := (0:Int) } : api_Rule), false)) | some o0 => (loopO (policy_Book_At_l0 o0 a1 a2) (IntKind.i64.wrap (((o0.l).length : Int) - (1:Int)))))

noncomputable def law15_awake : Option (Bool) :=
  (policy_New.bind fun t63 => ((policy_Book_Grant (some t63) ({ ID := (5:Int), From := (0:Int), To := (0:Int), Lo := (0:Nat), Hi := (0:Nat), Authority := (0:Int), Quota := (1:Int) } : api_Rule) (2:Int)).bind fun t70 => (match t70 with | none => none | some y75 => ((policy_Book_Revoke (some y75) (5:Int) (4:Int)).bind fun t77 => (match t77.2 with | none => none | some y82 => ((policy_Book_At (some y82) (5:Int) (1:Int)).bind fun t84 => ((policy_Book_At (some y82) (5:Int) (3:Int)).bind fun t96 => ((policy_Book_At (some y82) (5:Int) (4:Int)).bind fun t108 => (bif (!t84.2) then (bif t96.2 then (bif (t96.1.Quota == (1:Int)) then (some (!t108.2)) else (some false)) else (some false)) else (some false))))))))))

noncomputable def ref12_Tape_Next (a0 : ref12_Tape) (a1 : Int) : Option (Int × ref12_Tape) :=
  (bif (decide (a0.I ≥ ((a0.L).length : Int))) then (some ((0:Int), a0)) else ((geto a0.L (IntKind.i64.wrap ((IntKind.i64.wrap (a0.I + (1:Int))) - (1:Int)))).bind fun x69 => (gd (!(a1 == (0:Int))) (some ((Int.tmod (IntKind.i64.wrap x69) a1), ({ L := a0.L, I := (IntKind.i64.wrap (a0.I + (1:Int))) } : ref12_Tape))))))

noncomputable def ref12_small (a0 : Int) : Option (Nat) :=
  ((geto ([(0:Nat), (4607182418800017408:Nat), (13830554455654793216:Nat), (4612811918334230528:Nat), (9094988921128908188:Nat), (18318360957983683996:Nat), (4602678819172646912:Nat), (4613937818241073152:Nat)]) (Int.tmod a0 (8:Int))).bind fun x83 => (some x83))

noncomputable def ref12_Tape_Float (a0 : ref12_Tape) : Option (Nat × ref12_Tape) :=
  ((ref12_Tape_Next a0 (8:Int)).bind fun t74 => ((ref12_small (IntKind.u8.wrap t74.1)).bind fun t79 => (some (t79, t74.2))))

noncomputable def ref13_OfRule (a0 : ref12_Tape) : Option (api_Rule × ref12_Tape) :=
  ((ref12_Tape_Next a0 (3:Int)).bind fun t90 => ((ref12_Tape_Next t90.2 (4:Int)).bind fun t95 => ((ref12_Tape_Next t95.2 (4:Int)).bind fun t100 => ((ref12_Tape_Float t100.2).bind fun t105 => ((ref12_Tape_Float t105.2).bind fun t110 => ((ref12_Tape_Next t110.2 (2:Int)).bind fun t115 => ((ref12_Tape_Next t115.2 (3:Int)).bind fun t120 => (some (({ ID := (IntKind.u64.wrap t90.1), From := t95.1, To := t100.1, Lo := t105.1, Hi := t110.1, Authority := (IntKind.u64.wrap t115.1), Quota := t120.1 } : api_Rule), t120.2)))))))))

noncomputable def ref11_Revoke_j3 (z342 : (List ref11_Line)) (x355 : ref11_Line) (z341 : Int) (s : (Bool × Int)) : Option ((Int × (List ref11_Line) × Bool) ⊕ ((List ref11_Line) × Bool)) :=
  match s with | (z371, z372) => (gd (room z342 ([({ R := x355.R, From := x355.From, To := z372 } : ref11_Line)])) (some (Sum.inl ((IntKind.i64.wrap (z341 + (1:Int))), (z342 ++ ([({ R := x355.R, From := x355.From, To := z372 } : ref11_Line)])), z371))))
noncomputable def ref11_Revoke_l2 (a0 : (List ref11_Line)) (a1 : Int) (z231 : Int) (s : (Int × (List ref11_Line) × Bool)) : Option ((Int × (List ref11_Line) × Bool) ⊕ ((List ref11_Line) × Bool)) :=
  match s with | (z341, z342, z345) => (bif (decide (z341 < ((a0).length : Int))) then ((geto a0 z341).bind fun x355 => (((bif (x355.R.ID == a1) then (bif (x355.To == (0:Int)) then (some (true, z231)) else (some (z345, x355.To))) else (some (z345, x355.To)))).bind (ref11_Revoke_j3 z342 x355 z341))) else (inrO (some (z342, z345))))
noncomputable def ref11_Revoke_j1 (s : ((List ref11_Line) × Bool)) : Option ((List ref11_Line) × Bool) :=
  match s with | (z389, z390) => (some (z389, z390))
noncomputable def ref11_Revoke_j0 (a0 : (List ref11_Line)) (a1 : Int) (z231 : (Int)) : Option ((List ref11_Line) × Bool) :=
  (((loopO (ref11_Revoke_l2 a0 a1 z231) ((0:Int), [], false))).bind (ref11_Revoke_j1))
noncomputable def ref11_Revoke (a0 : (List ref11_Line)) (a1 : Int) (a2 : Int) : Option ((List ref11_Line) × Bool) :=
  (((bif (a2 == (0:Int)) then (some (1:Int)) else (some a2))).bind (ref11_Revoke_j0 a0 a1))

noncomputable def policy_Book_Len (a0 : (Option policy_Book)) : Option (Int) :=
  (match a0 with | none => (some (0:Int)) | some o0 => (some ((o0.l).length : Int)))

noncomputable def octet_Writer_lay (a0 : octet_Writer) (a1 : (List Int)) : Option (octet_Writer) :=
  (gd (room a0.p a1) (some ({ p := (a0.p ++ a1) } : octet_Writer)))

noncomputable def octet_Writer_Num_l0 (a2 : Int) (a1 : Int) (s : (octet_Writer × Int)) : Option ((octet_Writer × Int) ⊕ (octet_Writer)) :=
  match s with | (z341, z342) => (bif (decide (z342 < a2)) then (gd (decide ((0:Int) ≤ (IntKind.i64.wrap ((8:Int) * z342)))) ((octet_Writer_lay z341 ([(IntKind.u8.wrap (iShr .u64 a1 (IntKind.i64.wrap ((8:Int) * z342))))])).bind fun t360 => (some (Sum.inl (t360, (IntKind.i64.wrap (z342 + (1:Int)))))))) else (inrO (some z341)))
noncomputable def octet_Writer_Num (a0 : octet_Writer) (a1 : Int) (a2 : Int) : Option (octet_Writer) :=
  (loopO (octet_Writer_Num_l0 a2 a1) (a0, (0:Int)))

noncomputable def octet_Writer_Done (a0 : octet_Writer) : Option ((List Int)) :=
  (some a0.p)

noncomputable def math_IsNaN (a0 : Nat) : Option (Bool) :=
  (some (fNe a0 a0))

noncomputable def number_Rank (a0 : Nat) : Option (Int) :=
  ((math_IsNaN a0).bind fun t329 => (bif t329 then (some (18446744073709551615:Int)) else (bif ((iShr .u64 (Int.ofNat a0) (63:Int)) == (1:Int)) then (some (bXor .u64 ((18446744073709551615):Int) (Int.ofNat a0))) else (some (bOr .u64 (Int.ofNat a0) (9223372036854775808:Int))))))

noncomputable def policy_Book_Encode_l0 (t559 : (Int)) (t553 : (octet_Writer)) (_s : Unit) : Option (Unit ⊕ ((List Int))) :=
  (bif (decide ((0:Int) < t559)) then none else (inrO ((octet_Writer_Done t553).bind fun t574 => (some t574))))
noncomputable def policy_Book_Encode_l1 (t599 : (Int)) (o0 : policy_Book) (s : (octet_Writer × Int)) : Option ((octet_Writer × Int) ⊕ ((List Int))) :=
  match s with | (z748, z749) => (bif (decide (z749 < t599)) then ((geto o0.l z749).bind fun x762 => ((octet_Writer_Num z748 x762.r.ID (8:Int)).bind fun t774 => ((octet_Writer_Num t774 (IntKind.u64.wrap x762.r.From) (1:Int)).bind fun t779 => ((octet_Writer_Num t779 (IntKind.u64.wrap x762.r.To) (1:Int)).bind fun t784 => ((number_Rank x762.r.Lo).bind fun t789 => ((octet_Writer_Num t784 t789 (8:Int)).bind fun t794 => ((number_Rank x762.r.Hi).bind fun t799 => ((octet_Writer_Num t794 t799 (8:Int)).bind fun t804 => ((octet_Writer_Num t804 x762.r.Authority (8:Int)).bind fun t809 => ((octet_Writer_Num t809 (IntKind.u64.wrap x762.r.Quota) (4:Int)).bind fun t814 => ((octet_Writer_Num t814 x762.from_ (8:Int)).bind fun t819 => ((octet_Writer_Num t819 x762.to_ (8:Int)).bind fun t824 => (some (Sum.inl (t824, (IntKind.i64.wrap (z749 + (1:Int)))))))))))))))))) else (inrO ((octet_Writer_Done z748).bind fun t829 => (some t829))))
noncomputable def policy_Book_Encode (a0 : (Option policy_Book)) : Option ((List Int)) :=
  (match a0 with | none => ((policy_Book_Len none).bind fun t548 => ((octet_Writer_Num ({ p := [] } : octet_Writer) (IntKind.u64.wrap t548) (4:Int)).bind fun t553 => ((policy_Book_Len none).bind fun t559 => (loopO (policy_Book_Encode_l0 t559 t553) ())))) | some o0 => ((policy_Book_Len (some o0)).bind fun t589 => ((octet_Writer_Num ({ p := [] } : octet_Writer) (IntKind.u64.wrap t589) (4:Int)).bind fun t594 => ((policy_Book_Len (some o0)).bind fun t599 => (loopO (policy_Book_Encode_l1 t599 o0) (t594, (0:Int)))))))

noncomputable def octet_Read (a0 : (List Int)) : Option (octet_Reader) :=
  (some ({ p := a0, bad := false } : octet_Reader))

noncomputable def octet_Reader_Bad (a0 : octet_Reader) : Option (Bool) :=
  (some a0.bad)

noncomputable def octet_Reader_Left (a0 : octet_Reader) : Option (Int) :=
  ((octet_Reader_Bad a0).bind fun t274 => (bif t274 then (some (0:Int)) else (some ((a0.p).length : Int))))

noncomputable def octet_Reader_spoil (a0 : octet_Reader) : Option (octet_Reader) :=
  (some ({ p := a0.p, bad := true } : octet_Reader))

noncomputable def octet_Reader_Num_l1 (a1 : Int) (a0 : octet_Reader) (s : (Int × Int)) : Option ((Int × Int) ⊕ (Int)) :=
  match s with | (z407, z408) => (bif (decide (z407 < (if (8:Int) < a1 then (8:Int) else a1))) then ((geto a0.p z407).bind fun x423 => (gd (decide ((0:Int) ≤ (IntKind.i64.wrap ((8:Int) * z407)))) (some (Sum.inl ((IntKind.i64.wrap (z407 + (1:Int))), (bOr .u64 z408 (iShl .u64 (IntKind.u64.wrap x423) (IntKind.i64.wrap ((8:Int) * z407))))))))) else (inrO (some z408)))
noncomputable def octet_Reader_Num_j0 (a0 : octet_Reader) (a1 : Int) (z429 : (Int)) : Option (Int × octet_Reader) :=
  (gd (fits a0.p a1 (((a0.p).length : Nat) : Int)) (some (z429, ({ p := (subs a0.p a1 (((a0.p).length : Nat) : Int)), bad := a0.bad } : octet_Reader))))
noncomputable def octet_Reader_Num (a0 : octet_Reader) (a1 : Int) : Option (Int × octet_Reader) :=
  (bif a0.bad then ((octet_Reader_spoil a0).bind fun t364 => (some ((0:Int), t364))) else (bif (decide (a1 < (0:Int))) then ((octet_Reader_spoil a0).bind fun t370 => (some ((0:Int), t370))) else (bif (decide (((a0.p).length : Int) < a1)) then ((octet_Reader_spoil a0).bind fun t376 => (some ((0:Int), t376))) else (((loopO (octet_Reader_Num_l1 a1 a0) ((0:Int), (0:Int)))).bind (octet_Reader_Num_j0 a0 a1)))))

noncomputable def octet_Reader_Count (a0 : octet_Reader) (a1 : Int) : Option (Int × octet_Reader) :=
  ((octet_Reader_Num a0 (4:Int)).bind fun t286 => (bif (decide (a1 < (0:Int))) then ((octet_Reader_spoil t286.2).bind fun t292 => (some ((0:Int), t292))) else (bif (decide (t286.1 > (IntKind.u64.wrap a1))) then ((octet_Reader_spoil t286.2).bind fun t298 => (some ((0:Int), t298))) else (some ((IntKind.i64.wrap t286.1), t286.2)))))

noncomputable def number_Back (a0 : Int) : Option (Nat) :=
  (bif ((iShr .u64 a0 (63:Int)) == (1:Int)) then (some (Int.toNat (bAndNot .u64 a0 (9223372036854775808:Int)))) else (some (Int.toNat (bXor .u64 ((18446744073709551615):Int) a0))))

noncomputable def octet_Reader_End (a0 : octet_Reader) : Option (Bool) :=
  ((octet_Reader_Bad a0).bind fun t536 => (bif (!t536) then (some (((a0.p).length : Int) == (0:Int))) else (some false)))

noncomputable def slices_Equal_byte_byte_l0 (a0 : (List Int)) (a1 : (List Int)) (z614 : (Int)) : Option ((Int) ⊕ (Bool)) :=
  (bif (decide (z614 < ((a0).length : Int))) then ((geto a0 z614).bind fun x624 => ((geto a1 z614).bind fun x629 => (bif (x624 != x629) then (inrO (some false)) else (some (Sum.inl (IntKind.i64.wrap (z614 + (1:Int)))))))) else (inrO (some true)))
noncomputable def slices_Equal_byte_byte (a0 : (List Int)) (a1 : (List Int)) : Option (Bool) :=
  (bif (((a0).length : Int) != ((a1).length : Int)) then (some false) else (loopO (slices_Equal_byte_byte_l0 a0 a1) (0:Int)))

noncomputable def policy_Decode_l1 (t565 : (Int × octet_Reader)) (s : (octet_Reader × policy_Book × Int)) : Option ((octet_Reader × policy_Book × Int) ⊕ (octet_Reader × policy_Book)) :=
  match s with | (z727, z728, z729) => (bif (decide (z729 < t565.1)) then ((octet_Reader_Num z727 (8:Int)).bind fun t739 => ((octet_Reader_Num t739.2 (1:Int)).bind fun t744 => ((octet_Reader_Num t744.2 (1:Int)).bind fun t749 => ((octet_Reader_Num t749.2 (8:Int)).bind fun t754 => ((number_Back t754.1).bind fun t759 => ((octet_Reader_Num t754.2 (8:Int)).bind fun t764 => ((number_Back t764.1).bind fun t769 => ((octet_Reader_Num t764.2 (8:Int)).bind fun t774 => ((octet_Reader_Num t774.2 (4:Int)).bind fun t779 => ((octet_Reader_Num t779.2 (8:Int)).bind fun t784 => ((octet_Reader_Num t784.2 (8:Int)).bind fun t789 => (gd (room z728.l ([({ r := ({ ID := t739.1, From := (IntKind.i64.wrap t744.1), To := (IntKind.i64.wrap t749.1), Lo := t759, Hi := t769, Authority := t774.1, Quota := (IntKind.i64.wrap t779.1) } : api_Rule), from_ := t784.1, to_ := t789.1 } : policy_line)])) (some (Sum.inl (t789.2, ({ l := (z728.l ++ ([({ r := ({ ID := t739.1, From := (IntKind.i64.wrap t744.1), To := (IntKind.i64.wrap t749.1), Lo := t759, Hi := t769, Authority := t774.1, Quota := (IntKind.i64.wrap t779.1) } : api_Rule), from_ := t784.1, to_ := t789.1 } : policy_line)])) } : policy_Book), (IntKind.i64.wrap (z729 + (1:Int)))))))))))))))))) else (inrO (some (z727, z728))))
noncomputable def policy_Decode_j0 (a0 : (List Int)) (s : (octet_Reader × policy_Book)) : Option (Option policy_Book × Int) :=
  match s with | (z815, z816) => ((octet_Reader_End z815).bind fun t822 => (bif (!t822) then (some (none, (5:Int))) else ((policy_Book_Encode (some z816)).bind fun t829 => ((slices_Equal_byte_byte t829 a0).bind fun t838 => (bif (!t838) then (some (none, (5:Int))) else (some ((some z816), (0:Int))))))))
noncomputable def policy_Decode (a0 : (List Int)) : Option (Option policy_Book × Int) :=
  ((octet_Read a0).bind fun t546 => (policy_New.bind fun t553 => ((((octet_Reader_Left t546).bind fun t560 => ((octet_Reader_Count t546 t560).bind fun t565 => (loopO (policy_Decode_l1 t565) (t565.2, t553, (0:Int)))))).bind (policy_Decode_j0 a0))))

noncomputable def ref11_At_l1 (a0 : (List ref11_Line)) (a1 : Int) (a2 : Int) (s : (Int × Int × Int × Nat × Nat × Int × Int × Int × Bool)) : Option ((Int × Int × Int × Nat × Nat × Int × Int × Int × Bool) ⊕ (Int × Int × Int × Nat × Nat × Int × Int × Bool)) :=
  match s with | (z425, z426, z427, z428, z429, z430, z431, z432, z433) => (bif (decide (z432 < ((a0).length : Int))) then ((geto a0 z432).bind fun x443 => (bif (x443.R.ID == a1) then (bif (decide (x443.From ≤ a2)) then (bif (x443.To == (0:Int)) then (some (Sum.inl (x443.R.ID, x443.R.From, x443.R.To, x443.R.Lo, x443.R.Hi, x443.R.Authority, x443.R.Quota, (IntKind.i64.wrap (z432 + (1:Int))), true))) else (bif (decide (a2 < x443.To)) then (some (Sum.inl (x443.R.ID, x443.R.From, x443.R.To, x443.R.Lo, x443.R.Hi, x443.R.Authority, x443.R.Quota, (IntKind.i64.wrap (z432 + (1:Int))), true))) else (some (Sum.inl (z425, z426, z427, z428, z429, z430, z431, (IntKind.i64.wrap (z432 + (1:Int))), z433))))) else (some (Sum.inl (z425, z426, z427, z428, z429, z430, z431, (IntKind.i64.wrap (z432 + (1:Int))), z433)))) else (some (Sum.inl (z425, z426, z427, z428, z429, z430, z431, (IntKind.i64.wrap (z432 + (1:Int))), z433))))) else (inrO (some (z425, z426, z427, z428, z429, z430, z431, z433))))
noncomputable def ref11_At_j0 (s : (Int × Int × Int × Nat × Nat × Int × Int × Bool)) : Option (api_Rule × Bool) :=
  match s with | (z456, z457, z458, z459, z460, z461, z462, z463) => (some (({ ID := z456, From := z457, To := z458, Lo := z459, Hi := z460, Authority := z461, Quota := z462 } : api_Rule), z463))
noncomputable def ref11_At (a0 : (List ref11_Line)) (a1 : Int) (a2 : Int) : Option (api_Rule × Bool) :=
  (((loopO (ref11_At_l1 a0 a1 a2) ((0:Int), (0:Int), (0:Int), (0:Nat), (0:Nat), (0:Int), (0:Int), (0:Int), false))).bind (ref11_At_j0))

noncomputable def math_Signbit (a0 : Nat) : Option (Bool) :=
  (some (decide ((IntKind.i64.wrap (Int.ofNat a0)) < (0:Int))))

noncomputable def ref01_Ahead_j0 (a0 : Nat) (a1 : Nat) (_s : Unit) : Option (Bool) :=
  (some (fLt a0 a1))
noncomputable def ref01_Ahead (a0 : Nat) (a1 : Nat) : Option (Bool) :=
  (bif (fNe a0 a0) then (some false) else (bif (fNe a1 a1) then (some true) else (joinO (bif (fEq a0 (0:Nat)) then (bif (fEq a1 (0:Nat)) then ((math_Signbit a0).bind fun t329 => (bif t329 then ((math_Signbit a1).bind fun t335 => (inrO (some (!t335)))) else (inrO (some false)))) else (some (Sum.inl ()))) else (some (Sum.inl ()))) (ref01_Ahead_j0 a0 a1))))

noncomputable def ref01_Same (a0 : Nat) (a1 : Nat) : Option (Bool) :=
  ((ref01_Ahead a0 a1).bind fun t316 => (bif (!t316) then ((ref01_Ahead a1 a0).bind fun t322 => (some (!t322))) else (some false)))

noncomputable def ref11_SameRule (a0 : api_Rule) (a1 : api_Rule) : Option (Bool) :=
  (bif (a0.ID == a1.ID) then (bif (a0.From == a1.From) then (bif (a0.To == a1.To) then ((ref01_Same a0.Lo a1.Lo).bind fun t331 => (bif t331 then ((ref01_Same a0.Hi a1.Hi).bind fun t337 => (bif t337 then (bif (a0.Authority == a1.Authority) then (some (a0.Quota == a1.Quota)) else (some false)) else (some false))) else (some false))) else (some false)) else (some false)) else (some false))

noncomputable def law15_told_l1 (a0 : (Option policy_Book)) (z819 : Int) (a1 : (List ref11_Line)) (z894 : (Int)) : Option ((Int) ⊕ ((Int) ⊕ (Bool))) :=
  (bif (decide (z894 < (9:Int))) then ((policy_Book_At a0 z819 z894).bind fun t904 => ((ref11_At a1 z819 z894).bind fun t916 => (bif (!(t904.2 == t916.2)) then (inrO (inrO (some false))) else ((ref11_SameRule t904.1 t916.1).bind fun t929 => (bif (!t929) then (inrO (inrO (some false))) else (some (Sum.inl (IntKind.u64.wrap (z894 + (1:Int)))))))))) else (inrO (some (Sum.inl (IntKind.u64.wrap (z819 + (1:Int)))))))
noncomputable def law15_told_l0 (a0 : (Option policy_Book)) (a1 : (List ref11_Line)) (z819 : (Int)) : Option ((Int) ⊕ (Bool)) :=
  (bif (decide (z819 < (4:Int))) then (loopO (law15_told_l1 a0 z819 a1) (0:Int)) else (inrO (some true)))
noncomputable def law15_told (a0 : (Option policy_Book)) (a1 : (List ref11_Line)) : Option (Bool) :=
  ((policy_Book_Len a0).bind fun t598 => (bif (t598 != ((a1).length : Int)) then (some false) else (loopO (law15_told_l0 a0 a1) (0:Int))))

noncomputable def law15_PolicyBytes_l1 (s : (ref12_Tape × policy_Book × (List ref11_Line) × Int)) : Option ((ref12_Tape × policy_Book × (List ref11_Line) × Int) ⊕ (policy_Book × (List ref11_Line))) :=
  match s with | (z519, z520, z521, z524) => (bif (decide (z524 < (8:Int))) then ((ref13_OfRule z519).bind fun t534 => ((ref12_Tape_Next t534.2 (6:Int)).bind fun t546 => ((ref11_Revoke z521 t534.1.ID (IntKind.u64.wrap t546.1)).bind fun t553 => (gd (room t553.1 ([({ R := t534.1, From := (IntKind.u64.wrap t546.1), To := (0:Int) } : ref11_Line)])) ((policy_Book_Grant (some z520) t534.1 (IntKind.u64.wrap t546.1)).bind fun t569 => (match t569 with | none => none | some y574 => (some (Sum.inl (t546.2, y574, (t553.1 ++ ([({ R := t534.1, From := (IntKind.u64.wrap t546.1), To := (0:Int) } : ref11_Line)])), (IntKind.i64.wrap (z524 + (1:Int)))))))))))) else (inrO (some (z520, z521))))
noncomputable def law15_PolicyBytes_j2 (z576 : policy_Book) (a2 : Int) (a3 : Int) (_s : Unit) : Option (Bool) :=
  ((policy_Book_Encode (some z576)).bind fun t653 => (gd (!(((t653).length : Int) == (0:Int))) ((geto t653 (Int.tmod (IntKind.i64.wrap a2) ((t653).length : Int))).bind fun x661 => ((policy_Decode (t653.set (Int.tmod (IntKind.i64.wrap a2) ((t653).length : Int)).toNat (bXor .u8 x661 a3))).bind fun t673 => (bif (t673.2 == (0:Int)) then ((policy_Book_Encode t673.1).bind fun t681 => (bif (sEq (toStr t681) (toStr (t653.set (Int.tmod (IntKind.i64.wrap a2) ((t653).length : Int)).toNat (bXor .u8 x661 a3)))) then (some true) else (bif (t673.2 == (5:Int)) then (some (t673.1.isNone)) else (some false)))) else (bif (t673.2 == (5:Int)) then (some (t673.1.isNone)) else (some false)))))))
noncomputable def law15_PolicyBytes_j0 (a1 : (List Int)) (a2 : Int) (a3 : Int) (s : (policy_Book × (List ref11_Line))) : Option (Bool) :=
  match s with | (z576, z579) => ((policy_Book_Encode (some z576)).bind fun t585 => ((policy_Decode t585).bind fun t595 => (bif (t595.2 != (0:Int)) then (some false) else ((law15_told t595.1 z579).bind fun t605 => (bif (!t605) then (some false) else ((policy_Book_Encode t595.1).bind fun t611 => ((policy_Book_Encode (some z576)).bind fun t618 => (bif (!(sEq (toStr t611) (toStr t618))) then (some false) else ((policy_Decode a1).bind fun t626 => (joinO (bif (t626.2 == (0:Int)) then ((policy_Book_Encode t626.1).bind fun t634 => (bif (!(sEq (toStr t634) (toStr a1))) then (inrO (some false)) else (bif (t626.2 != (0:Int)) then (bif (t626.2 != (5:Int)) then (inrO (some false)) else (bif (!(t626.1.isNone)) then (inrO (some false)) else (some (Sum.inl ())))) else (some (Sum.inl ()))))) else (bif (t626.2 != (0:Int)) then (bif (t626.2 != (5:Int)) then (inrO (some false)) else (bif (!(t626.1.isNone)) then (inrO (some false)) else (some (Sum.inl ())))) else (some (Sum.inl ())))) (law15_PolicyBytes_j2 z576 a2 a3)))))))))))
noncomputable def law15_PolicyBytes (a0 : (List Int)) (a1 : (List Int)) (a2 : Int) (a3 : Int) : Option (Bool) :=
  (law15_awake.bind fun t348 => (bif (!t348) then (law15_awake.bind fun t354 => (some t354)) else (bif (decide (((a0).length : Int) > (300:Int))) then (law15_awake.bind fun t360 => (some t360)) else (bif (decide (((a1).length : Int) > (1000:Int))) then (law15_awake.bind fun t366 => (some t366)) else (policy_New.bind fun t377 => (((loopO (law15_PolicyBytes_l1) (({ L := a0, I := (0:Int) } : ref12_Tape), t377, [], (0:Int)))).bind (law15_PolicyBytes_j0 a1 a2 a3)))))))
end Go.Proofs.Ytcnldkkdommmdaa
