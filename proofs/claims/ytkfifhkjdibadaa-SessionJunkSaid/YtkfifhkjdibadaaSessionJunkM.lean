/- The models of the Go functions: plain Lean, no memory. -/
import Derived.Test.YtkfifhkjdibadaaSessionJunkGv
set_option linter.unusedVariables false
set_option linter.unusedSimpArgs false
set_option maxRecDepth 100000
set_option maxHeartbeats 4000000
namespace Go.Proofs.Ytkfifhkjdibadaa
open Go Go.V
structure api_Got where
  Has : Bool
  Val : (List Int)

structure api_Pair where
  At : Nat
  Val : (List Int)

structure api_Reply where
  E : Int
  Epoch : Int
  Index : Int
  Gots : (List api_Got)
  Scans : (List (List api_Pair))

structure session_row where
  session : Int
  seq : Int
  r : api_Reply

structure session_Table where
  l : (List session_row)

structure octet_Reader where
  p : (List Int)
  bad : Bool

structure octet_Writer where
  p : (List Int)

structure ref12_Tape where
  L : (List Int)
  I : Int

structure ref11_Answer where
  Session : Int
  Seq : Int
  R : api_Reply

def zero_api_Reply : api_Reply := { E := (0:Int), Epoch := (0:Int), Index := (0:Int), Gots := [], Scans := [] }

noncomputable def session_New : Option (session_Table) :=
  (some ({ l := [] } : session_Table))

noncomputable def cmp_isNaN_uint64 (a0 : Int) : Option (Bool) :=
  (some (a0 != a0))

noncomputable def cmp_Compare_uint64 (a0 : Int) (a1 : Int) : Option (Int) :=
  ((cmp_isNaN_uint64 a0).bind fun t70 => ((cmp_isNaN_uint64 a1).bind fun t75 => (bif t70 then (bif t75 then (some (0:Int)) else (some ((-1):Int))) else (bif t75 then (some (1:Int)) else (bif (decide (a0 < a1)) then (some ((-1):Int)) else (bif (decide (a0 > a1)) then (some (1:Int)) else (some (0:Int))))))))

noncomputable def session_Table_find_1 (a0 : session_row) (a1 : Int) : Option (Int) :=
  ((cmp_Compare_uint64 a0.session a1).bind fun t67 => (some t67))

noncomputable def session_Table_find_l1 (o0 : session_Table) (a1 : Int) (s : (Int × Int)) : Option ((Int × Int) ⊕ (Int)) :=
  match s with | (z188, z189) => (bif (decide (z189 < z188)) then ((geto o0.l (IntKind.i64.wrap (iShr .u64 (IntKind.u64.wrap (IntKind.i64.wrap (z189 + z188))) (1:Int)))).bind fun x199 => ((session_Table_find_1 x199 a1).bind fun t213 => (bif (decide (t213 < (0:Int))) then (some (Sum.inl (z188, (IntKind.i64.wrap ((IntKind.i64.wrap (iShr .u64 (IntKind.u64.wrap (IntKind.i64.wrap (z189 + z188))) (1:Int))) + (1:Int)))))) else (some (Sum.inl ((IntKind.i64.wrap (iShr .u64 (IntKind.u64.wrap (IntKind.i64.wrap (z189 + z188))) (1:Int))), z189)))))) else (inrO (some z189)))
noncomputable def session_Table_find_j0 (o0 : session_Table) (a1 : Int) (z219 : (Int)) : Option (Int × Bool) :=
  (bif (decide (z219 < ((o0.l).length : Int))) then ((geto o0.l z219).bind fun x226 => ((session_Table_find_1 x226 a1).bind fun t240 => (some (z219, (t240 == (0:Int)))))) else (some (z219, false)))
noncomputable def session_Table_find (a0 : (Option session_Table)) (a1 : Int) : Option (Int × Bool) :=
  (match a0 with | none => (some ((0:Int), false)) | some o0 => ((((loopO (session_Table_find_l1 o0 a1) (((o0.l).length : Int), (0:Int)))).bind (session_Table_find_j0 o0 a1)).bind fun (z245, z246) => (some (z245, z246))))

noncomputable def slices_Insert_session_row_session_row (a0 : (List session_row)) (a1 : Int) (a2 : (List session_row)) : Option ((List session_row)) :=
  gd (insOK a0 a1 a2) (some (ins a0 a1 a2))

noncomputable def session_Table_Put_j1 (t154 : (Int × Bool)) (a2 : Int) (a3 : api_Reply) (z209 : (session_Table)) : Option (Int × (Option session_Table)) :=
  ((geto z209.l t154.1).bind fun x219 => (some ((0:Int), (some ({ l := ((z209.l.set t154.1.toNat ({ session := x219.session, seq := a2, r := x219.r } : session_row)).set t154.1.toNat ({ session := ({ session := x219.session, seq := a2, r := x219.r } : session_row).session, seq := ({ session := x219.session, seq := a2, r := x219.r } : session_row).seq, r := a3 } : session_row)) } : session_Table)))))
noncomputable def session_Table_Put_j0 (t154 : (Int × Bool)) (o0 : session_Table) (a1 : Int) (a2 : Int) (a3 : api_Reply) (_s : Unit) : Option (Int × (Option session_Table)) :=
  (((bif (!t154.2) then ((slices_Insert_session_row_session_row o0.l t154.1 ([({ session := a1, seq := (0:Int), r := zero_api_Reply } : session_row)])).bind fun t200 => (some ({ l := t200 } : session_Table))) else (some o0))).bind (session_Table_Put_j1 t154 a2 a3))
noncomputable def session_Table_Put (a0 : (Option session_Table)) (a1 : Int) (a2 : Int) (a3 : api_Reply) : Option (Int × (Option session_Table)) :=
  (match a0 with | none => (some ((2:Int), none)) | some o0 => (bif (a2 == (0:Int)) then (some ((1:Int), (some o0))) else ((session_Table_find (some o0) a1).bind fun t154 => (joinO (bif t154.2 then ((geto o0.l t154.1).bind fun x164 => (bif (decide (x164.seq ≥ a2)) then (inrO (some ((10:Int), (some o0)))) else (some (Sum.inl ())))) else (some (Sum.inl ()))) (session_Table_Put_j0 t154 o0 a1 a2 a3)))))

noncomputable def session_Table_Get (a0 : (Option session_Table)) (a1 : Int) (a2 : Int) : Option (api_Reply × Int) :=
  (match a0 with | none => ((session_Table_find none a1).bind fun t96 => (bif (!t96.2) then (some (zero_api_Reply, (2:Int))) else none)) | some o0 => ((session_Table_find (some o0) a1).bind fun t115 => (bif (!t115.2) then (some (zero_api_Reply, (2:Int))) else ((geto o0.l t115.1).bind fun x130 => (bif (decide (x130.seq < a2)) then (some (zero_api_Reply, (2:Int))) else (bif (decide (x130.seq > a2)) then (some (zero_api_Reply, (10:Int))) else (some (x130.r, (0:Int)))))))))

noncomputable def law14_awake : Option (Bool) :=
  (session_New.bind fun t85 => ((session_Table_Put (some t85) (1:Int) (2:Int) ({ E := (0:Int), Epoch := (9:Int), Index := (0:Int), Gots := [], Scans := [] } : api_Reply)).bind fun t96 => (match t96.2 with | none => none | some y101 => (bif (t96.1 != (0:Int)) then (some false) else ((session_Table_Get (some y101) (1:Int) (2:Int)).bind fun t104 => ((session_Table_Get (some y101) (1:Int) (1:Int)).bind fun t124 => ((session_Table_Get (some y101) (1:Int) (3:Int)).bind fun t144 => (bif (t104.2 == (0:Int)) then (bif (t104.1.Epoch == (9:Int)) then (bif (t124.2 == (10:Int)) then (some (t144.2 == (2:Int))) else (some false)) else (some false)) else (some false)))))))))

noncomputable def octet_Read (a0 : (List Int)) : Option (octet_Reader) :=
  (some ({ p := a0, bad := false } : octet_Reader))

noncomputable def octet_Reader_Bad (a0 : octet_Reader) : Option (Bool) :=
  (some a0.bad)

noncomputable def octet_Reader_Left (a0 : octet_Reader) : Option (Int) :=
  ((octet_Reader_Bad a0).bind fun t53 => (bif t53 then (some (0:Int)) else (some ((a0.p).length : Int))))

noncomputable def octet_Reader_spoil (a0 : octet_Reader) : Option (octet_Reader) :=
  (some ({ p := a0.p, bad := true } : octet_Reader))

noncomputable def octet_Reader_Num_l1 (a1 : Int) (a0 : octet_Reader) (s : (Int × Int)) : Option ((Int × Int) ⊕ (Int)) :=
  match s with | (z186, z187) => (bif (decide (z186 < (if (8:Int) < a1 then (8:Int) else a1))) then ((geto a0.p z186).bind fun x202 => (gd (decide ((0:Int) ≤ (IntKind.i64.wrap ((8:Int) * z186)))) (some (Sum.inl ((IntKind.i64.wrap (z186 + (1:Int))), (bOr .u64 z187 (iShl .u64 (IntKind.u64.wrap x202) (IntKind.i64.wrap ((8:Int) * z186))))))))) else (inrO (some z187)))
noncomputable def octet_Reader_Num_j0 (a0 : octet_Reader) (a1 : Int) (z208 : (Int)) : Option (Int × octet_Reader) :=
  (gd (fits a0.p a1 (((a0.p).length : Nat) : Int)) (some (z208, ({ p := (subs a0.p a1 (((a0.p).length : Nat) : Int)), bad := a0.bad } : octet_Reader))))
noncomputable def octet_Reader_Num (a0 : octet_Reader) (a1 : Int) : Option (Int × octet_Reader) :=
  (bif a0.bad then ((octet_Reader_spoil a0).bind fun t143 => (some ((0:Int), t143))) else (bif (decide (a1 < (0:Int))) then ((octet_Reader_spoil a0).bind fun t149 => (some ((0:Int), t149))) else (bif (decide (((a0.p).length : Int) < a1)) then ((octet_Reader_spoil a0).bind fun t155 => (some ((0:Int), t155))) else (((loopO (octet_Reader_Num_l1 a1 a0) ((0:Int), (0:Int)))).bind (octet_Reader_Num_j0 a0 a1)))))

noncomputable def octet_Reader_Count (a0 : octet_Reader) (a1 : Int) : Option (Int × octet_Reader) :=
  ((octet_Reader_Num a0 (4:Int)).bind fun t65 => (bif (decide (a1 < (0:Int))) then ((octet_Reader_spoil t65.2).bind fun t71 => (some ((0:Int), t71))) else (bif (decide (t65.1 > (IntKind.u64.wrap a1))) then ((octet_Reader_spoil t65.2).bind fun t77 => (some ((0:Int), t77))) else (some ((IntKind.i64.wrap t65.1), t65.2)))))

noncomputable def octet_Reader_Flag (a0 : octet_Reader) : Option (Bool × octet_Reader) :=
  ((octet_Reader_Num a0 (1:Int)).bind fun t115 => (bif (decide (t115.1 > (1:Int))) then ((octet_Reader_spoil t115.2).bind fun t121 => (some (false, t121))) else (some ((t115.1 == (1:Int)), t115.2))))

noncomputable def octet_Reader_Bytes (a0 : octet_Reader) (a1 : Int) : Option ((List Int) × octet_Reader) :=
  ((octet_Reader_Num a0 (4:Int)).bind fun t162 => (bif t162.2.bad then ((octet_Reader_spoil t162.2).bind fun t172 => (some ([], t172))) else (bif (decide (a1 < (0:Int))) then ((octet_Reader_spoil t162.2).bind fun t179 => (some ([], t179))) else (bif (decide (t162.1 > (IntKind.u64.wrap a1))) then ((octet_Reader_spoil t162.2).bind fun t186 => (some ([], t186))) else (bif (decide (t162.1 > (IntKind.u64.wrap ((t162.2.p).length : Int)))) then ((octet_Reader_spoil t162.2).bind fun t193 => (some ([], t193))) else (gd (fits t162.2.p (0:Int) t162.1) (gd (room ([] : List Int) (subs t162.2.p (0:Int) t162.1)) (gd (fits t162.2.p t162.1 (((t162.2.p).length : Nat) : Int)) (some ((subs t162.2.p (0:Int) t162.1), ({ p := (subs t162.2.p t162.1 (((t162.2.p).length : Nat) : Int)), bad := t162.2.bad } : octet_Reader)))))))))))

noncomputable def number_Back (a0 : Int) : Option (Nat) :=
  (bif ((iShr .u64 a0 (63:Int)) == (1:Int)) then (some (Int.toNat (bAndNot .u64 a0 (9223372036854775808:Int)))) else (some (Int.toNat (bXor .u64 ((18446744073709551615):Int) a0))))

noncomputable def command_ReadReply_l1 (t1027 : (Int × octet_Reader)) (s : ((List api_Got) × octet_Reader × Int)) : Option (((List api_Got) × octet_Reader × Int) ⊕ (octet_Reader × (List api_Got))) :=
  match s with | (z1124, z1127, z1128) => (bif (decide (z1128 < t1027.1)) then ((octet_Reader_Flag z1127).bind fun t1139 => ((octet_Reader_Bytes t1139.2 (256:Int)).bind fun t1144 => (gd (room z1124 ([({ Has := t1139.1, Val := t1144.1 } : api_Got)])) (some (Sum.inl ((z1124 ++ ([({ Has := t1139.1, Val := t1144.1 } : api_Got)])), t1144.2, (IntKind.i64.wrap (z1128 + (1:Int))))))))) else (inrO (some (z1127, z1124))))
noncomputable def command_ReadReply_l4 (t1744 : (Int × octet_Reader)) (s : (octet_Reader × Int × (List api_Pair))) : Option ((octet_Reader × Int × (List api_Pair)) ⊕ (octet_Reader × (List api_Pair))) :=
  match s with | (z1850, z1851, z1852) => (bif (decide (z1851 < t1744.1)) then ((octet_Reader_Num z1850 (8:Int)).bind fun t1865 => ((number_Back t1865.1).bind fun t1870 => ((octet_Reader_Bytes t1865.2 (256:Int)).bind fun t1875 => (gd (room z1852 ([({ At := t1870, Val := t1875.1 } : api_Pair)])) (some (Sum.inl (t1875.2, (IntKind.i64.wrap (z1851 + (1:Int))), (z1852 ++ ([({ At := t1870, Val := t1875.1 } : api_Pair)]))))))))) else (inrO (some (z1850, z1852))))
noncomputable def command_ReadReply_j3 (z1728 : (List (List api_Pair))) (z1732 : Int) (s : (octet_Reader × (List api_Pair))) : Option (((List (List api_Pair)) × octet_Reader × Int) ⊕ (api_Reply × octet_Reader)) :=
  match s with | (z1896, z1899) => (gd (room z1728 ([z1899])) (some (Sum.inl ((z1728 ++ ([z1899])), z1896, (IntKind.i64.wrap (z1732 + (1:Int)))))))
noncomputable def command_ReadReply_l2 (t1178 : (Int × octet_Reader)) (t1001 : (Int × octet_Reader)) (t1006 : (Int × octet_Reader)) (t1011 : (Int × octet_Reader)) (z1170 : (List api_Got)) (s : ((List (List api_Pair)) × octet_Reader × Int)) : Option (((List (List api_Pair)) × octet_Reader × Int) ⊕ (api_Reply × octet_Reader)) :=
  match s with | (z1728, z1731, z1732) => (bif (decide (z1732 < t1178.1)) then ((((octet_Reader_Count z1731 (64:Int)).bind fun t1744 => (loopO (command_ReadReply_l4 t1744) (t1744.2, (0:Int), [])))).bind (command_ReadReply_j3 z1728 z1732)) else (inrO (some (({ E := (IntKind.i64.wrap t1001.1), Epoch := t1006.1, Index := t1011.1, Gots := z1170, Scans := z1728 } : api_Reply), z1731))))
noncomputable def command_ReadReply_j0 (t1001 : (Int × octet_Reader)) (t1006 : (Int × octet_Reader)) (t1011 : (Int × octet_Reader)) (s : (octet_Reader × (List api_Got))) : Option (api_Reply × octet_Reader) :=
  match s with | (z1167, z1170) => ((octet_Reader_Count z1167 (32:Int)).bind fun t1178 => (loopO (command_ReadReply_l2 t1178 t1001 t1006 t1011 z1170) ([], t1178.2, (0:Int))))
noncomputable def command_ReadReply (a0 : octet_Reader) : Option (api_Reply × octet_Reader) :=
  ((octet_Reader_Num a0 (1:Int)).bind fun t1001 => ((octet_Reader_Num t1001.2 (8:Int)).bind fun t1006 => ((octet_Reader_Num t1006.2 (8:Int)).bind fun t1011 => ((((octet_Reader_Count t1011.2 (32:Int)).bind fun t1027 => (loopO (command_ReadReply_l1 t1027) ([], t1027.2, (0:Int))))).bind (command_ReadReply_j0 t1001 t1006 t1011)))))

noncomputable def octet_Reader_End (a0 : octet_Reader) : Option (Bool) :=
  ((octet_Reader_Bad a0).bind fun t327 => (bif (!t327) then (some (((a0.p).length : Int) == (0:Int))) else (some false)))

noncomputable def session_Table_Len (a0 : (Option session_Table)) : Option (Int) :=
  (match a0 with | none => (some (0:Int)) | some o0 => (some ((o0.l).length : Int)))

noncomputable def octet_Writer_lay (a0 : octet_Writer) (a1 : (List Int)) : Option (octet_Writer) :=
  (gd (room a0.p a1) (some ({ p := (a0.p ++ a1) } : octet_Writer)))

noncomputable def octet_Writer_Num_l0 (a2 : Int) (a1 : Int) (s : (octet_Writer × Int)) : Option ((octet_Writer × Int) ⊕ (octet_Writer)) :=
  match s with | (z422, z423) => (bif (decide (z423 < a2)) then (gd (decide ((0:Int) ≤ (IntKind.i64.wrap ((8:Int) * z423)))) ((octet_Writer_lay z422 ([(IntKind.u8.wrap (iShr .u64 a1 (IntKind.i64.wrap ((8:Int) * z423))))])).bind fun t441 => (some (Sum.inl (t441, (IntKind.i64.wrap (z423 + (1:Int)))))))) else (inrO (some z422)))
noncomputable def octet_Writer_Num (a0 : octet_Writer) (a1 : Int) (a2 : Int) : Option (octet_Writer) :=
  (loopO (octet_Writer_Num_l0 a2 a1) (a0, (0:Int)))

noncomputable def octet_Writer_Done (a0 : octet_Writer) : Option ((List Int)) :=
  (some a0.p)

noncomputable def octet_Writer_Flag (a0 : octet_Writer) (a1 : Bool) : Option (octet_Writer) :=
  (bif a1 then ((octet_Writer_Num a0 (1:Int) (1:Int)).bind fun t488 => (some t488)) else ((octet_Writer_Num a0 (0:Int) (1:Int)).bind fun t493 => (some t493)))

noncomputable def octet_Writer_Bytes (a0 : octet_Writer) (a1 : (List Int)) : Option (octet_Writer) :=
  ((octet_Writer_Num a0 (IntKind.u64.wrap ((a1).length : Int)) (4:Int)).bind fun t488 => ((octet_Writer_lay t488 a1).bind fun t493 => (some t493)))

noncomputable def math_IsNaN (a0 : Nat) : Option (Bool) :=
  (some (fNe a0 a0))

noncomputable def number_Rank (a0 : Nat) : Option (Int) :=
  ((math_IsNaN a0).bind fun t611 => (bif t611 then (some (18446744073709551615:Int)) else (bif ((iShr .u64 (Int.ofNat a0) (63:Int)) == (1:Int)) then (some (bXor .u64 ((18446744073709551615):Int) (Int.ofNat a0))) else (some (bOr .u64 (Int.ofNat a0) (9223372036854775808:Int))))))

noncomputable def command_LayReply_l1 (a1 : api_Reply) (s : (octet_Writer × Int)) : Option ((octet_Writer × Int) ⊕ (octet_Writer)) :=
  match s with | (z1071, z1072) => (bif (decide (z1072 < ((a1.Gots).length : Int))) then ((geto a1.Gots z1072).bind fun x1082 => ((octet_Writer_Flag z1071 x1082.Has).bind fun t1101 => ((octet_Writer_Bytes t1101 x1082.Val).bind fun t1106 => (some (Sum.inl (t1106, (IntKind.i64.wrap (z1072 + (1:Int))))))))) else (inrO (some z1071)))
noncomputable def command_LayReply_l3 (x1403 : (List api_Pair)) (z1393 : Int) (s : (octet_Writer × Int)) : Option ((octet_Writer × Int) ⊕ ((octet_Writer × Int) ⊕ (octet_Writer))) :=
  match s with | (z1491, z1492) => (bif (decide (z1492 < ((x1403).length : Int))) then ((geto x1403 z1492).bind fun x1502 => ((number_Rank x1502.At).bind fun t1521 => ((octet_Writer_Num z1491 t1521 (8:Int)).bind fun t1526 => ((octet_Writer_Bytes t1526 x1502.Val).bind fun t1531 => (some (Sum.inl (t1531, (IntKind.i64.wrap (z1492 + (1:Int)))))))))) else (inrO (some (Sum.inl (z1491, (IntKind.i64.wrap (z1393 + (1:Int))))))))
noncomputable def command_LayReply_l2 (a1 : api_Reply) (s : (octet_Writer × Int)) : Option ((octet_Writer × Int) ⊕ (octet_Writer)) :=
  match s with | (z1392, z1393) => (bif (decide (z1393 < ((a1.Scans).length : Int))) then ((geto a1.Scans z1393).bind fun x1403 => ((octet_Writer_Num z1392 (IntKind.u64.wrap ((x1403).length : Int)) (4:Int)).bind fun t1414 => (loopO (command_LayReply_l3 x1403 z1393) (t1414, (0:Int))))) else (inrO (some z1392)))
noncomputable def command_LayReply_j0 (a1 : api_Reply) (z1111 : (octet_Writer)) : Option (octet_Writer) :=
  ((octet_Writer_Num z1111 (IntKind.u64.wrap ((a1.Scans).length : Int)) (4:Int)).bind fun t1117 => (loopO (command_LayReply_l2 a1) (t1117, (0:Int))))
noncomputable def command_LayReply (a0 : octet_Writer) (a1 : api_Reply) : Option (octet_Writer) :=
  ((octet_Writer_Num a0 (IntKind.u64.wrap a1.E) (1:Int)).bind fun t989 => ((octet_Writer_Num t989 a1.Epoch (8:Int)).bind fun t994 => ((octet_Writer_Num t994 a1.Index (8:Int)).bind fun t999 => ((octet_Writer_Num t999 (IntKind.u64.wrap ((a1.Gots).length : Int)) (4:Int)).bind fun t1004 => (((loopO (command_LayReply_l1 a1) (t1004, (0:Int)))).bind (command_LayReply_j0 a1))))))

noncomputable def session_Table_Encode_l0 (t559 : (Int)) (t553 : (octet_Writer)) (_s : Unit) : Option (Unit ⊕ ((List Int))) :=
  (bif (decide ((0:Int) < t559)) then none else (inrO ((octet_Writer_Done t553).bind fun t574 => (some t574))))
noncomputable def session_Table_Encode_l1 (t599 : (Int)) (o0 : session_Table) (s : (octet_Writer × Int)) : Option ((octet_Writer × Int) ⊕ ((List Int))) :=
  match s with | (z694, z695) => (bif (decide (z695 < t599)) then ((geto o0.l z695).bind fun x710 => ((octet_Writer_Num z694 x710.session (8:Int)).bind fun t724 => ((octet_Writer_Num t724 x710.seq (8:Int)).bind fun t729 => ((command_LayReply t729 x710.r).bind fun t743 => (some (Sum.inl (t743, (IntKind.i64.wrap (z695 + (1:Int)))))))))) else (inrO ((octet_Writer_Done z694).bind fun t748 => (some t748))))
noncomputable def session_Table_Encode (a0 : (Option session_Table)) : Option ((List Int)) :=
  (match a0 with | none => ((session_Table_Len none).bind fun t548 => ((octet_Writer_Num ({ p := [] } : octet_Writer) (IntKind.u64.wrap t548) (4:Int)).bind fun t553 => ((session_Table_Len none).bind fun t559 => (loopO (session_Table_Encode_l0 t559 t553) ())))) | some o0 => ((session_Table_Len (some o0)).bind fun t589 => ((octet_Writer_Num ({ p := [] } : octet_Writer) (IntKind.u64.wrap t589) (4:Int)).bind fun t594 => ((session_Table_Len (some o0)).bind fun t599 => (loopO (session_Table_Encode_l1 t599 o0) (t594, (0:Int)))))))

noncomputable def slices_Equal_byte_byte_l0 (a0 : (List Int)) (a1 : (List Int)) (z405 : (Int)) : Option ((Int) ⊕ (Bool)) :=
  (bif (decide (z405 < ((a0).length : Int))) then ((geto a0 z405).bind fun x415 => ((geto a1 z405).bind fun x420 => (bif (x415 != x420) then (inrO (some false)) else (some (Sum.inl (IntKind.i64.wrap (z405 + (1:Int)))))))) else (inrO (some true)))
noncomputable def slices_Equal_byte_byte (a0 : (List Int)) (a1 : (List Int)) : Option (Bool) :=
  (bif (((a0).length : Int) != ((a1).length : Int)) then (some false) else (loopO (slices_Equal_byte_byte_l0 a0 a1) (0:Int)))

noncomputable def session_Decode_j2 (z525 : session_Table) (t537 : (Int × octet_Reader)) (t542 : (Int × octet_Reader)) (t547 : (api_Reply × octet_Reader)) (z526 : Int) (_s : Unit) : Option ((octet_Reader × session_Table × Int) ⊕ ((octet_Reader × session_Table) ⊕ (Option session_Table × Int))) :=
  (gd (room z525.l ([({ session := t537.1, seq := t542.1, r := t547.1 } : session_row)])) (some (Sum.inl (t547.2, ({ l := (z525.l ++ ([({ session := t537.1, seq := t542.1, r := t547.1 } : session_row)])) } : session_Table), (IntKind.i64.wrap (z526 + (1:Int)))))))
noncomputable def session_Decode_l1 (t356 : (Int × octet_Reader)) (s : (octet_Reader × session_Table × Int)) : Option ((octet_Reader × session_Table × Int) ⊕ ((octet_Reader × session_Table) ⊕ (Option session_Table × Int))) :=
  match s with | (z524, z525, z526) => (bif (decide (z526 < t356.1)) then ((octet_Reader_Num z524 (8:Int)).bind fun t537 => ((octet_Reader_Num t537.2 (8:Int)).bind fun t542 => ((command_ReadReply t542.2).bind fun t547 => (joinO (bif (t542.1 == (0:Int)) then (inrO (inrO (inrO (some (none, (5:Int)))))) else (bif (decide (z526 > (0:Int))) then ((geto z525.l (IntKind.i64.wrap (z526 - (1:Int)))).bind fun x575 => (bif (decide (x575.session ≥ t537.1)) then (inrO (inrO (inrO (some (none, (5:Int)))))) else (some (Sum.inl ())))) else (some (Sum.inl ())))) (session_Decode_j2 z525 t537 t542 t547 z526))))) else (inrO (some (Sum.inl (z524, z525)))))
noncomputable def session_Decode_j0 (a0 : (List Int)) (s : (octet_Reader × session_Table)) : Option (Option session_Table × Int) :=
  match s with | (z616, z617) => ((octet_Reader_End z616).bind fun t625 => (bif (!t625) then (some (none, (5:Int))) else ((session_Table_Encode (some z617)).bind fun t632 => ((slices_Equal_byte_byte t632 a0).bind fun t641 => (bif (!t641) then (some (none, (5:Int))) else (some ((some z617), (0:Int))))))))
noncomputable def session_Decode (a0 : (List Int)) : Option (Option session_Table × Int) :=
  ((octet_Read a0).bind fun t337 => (session_New.bind fun t344 => (joinO ((octet_Reader_Left t337).bind fun t351 => ((octet_Reader_Count t337 t351).bind fun t356 => (loopO (session_Decode_l1 t356) (t356.2, t344, (0:Int))))) (session_Decode_j0 a0))))

noncomputable def ref12_Tape_Next (a0 : ref12_Tape) (a1 : Int) : Option (Int × ref12_Tape) :=
  (bif (decide (a0.I ≥ ((a0.L).length : Int))) then (some ((0:Int), a0)) else ((geto a0.L (IntKind.i64.wrap ((IntKind.i64.wrap (a0.I + (1:Int))) - (1:Int)))).bind fun x89 => (gd (!(a1 == (0:Int))) (some ((Int.tmod (IntKind.i64.wrap x89) a1), ({ L := a0.L, I := (IntKind.i64.wrap (a0.I + (1:Int))) } : ref12_Tape))))))

noncomputable def ref12_Tape_Val_l0 (t295 : (Int × ref12_Tape)) (s : (ref12_Tape × (List Int) × Int)) : Option ((ref12_Tape × (List Int) × Int) ⊕ ((List Int) × ref12_Tape)) :=
  match s with | (z350, z351, z354) => (bif (decide (z354 < t295.1)) then ((ref12_Tape_Next z350 (26:Int)).bind fun t364 => (gd (room z351 ([(IntKind.u8.wrap (IntKind.i64.wrap ((97:Int) + t364.1)))])) (some (Sum.inl (t364.2, (z351 ++ ([(IntKind.u8.wrap (IntKind.i64.wrap ((97:Int) + t364.1)))])), (IntKind.i64.wrap (z354 + (1:Int)))))))) else (inrO (some (z351, z350))))
noncomputable def ref12_Tape_Val (a0 : ref12_Tape) : Option ((List Int) × ref12_Tape) :=
  ((ref12_Tape_Next a0 (4:Int)).bind fun t295 => (loopO (ref12_Tape_Val_l0 t295) (t295.2, [], (0:Int))))

noncomputable def ref12_small (a0 : Int) : Option (Nat) :=
  ((geto ([(0:Nat), (4607182418800017408:Nat), (13830554455654793216:Nat), (4612811918334230528:Nat), (9094988921128908188:Nat), (18318360957983683996:Nat), (4602678819172646912:Nat), (4613937818241073152:Nat)]) (Int.tmod a0 (8:Int))).bind fun x385 => (some x385))

noncomputable def ref12_Tape_Float (a0 : ref12_Tape) : Option (Nat × ref12_Tape) :=
  ((ref12_Tape_Next a0 (8:Int)).bind fun t376 => ((ref12_small (IntKind.u8.wrap t376.1)).bind fun t381 => (some (t381, t376.2))))

noncomputable def ref13_OfReply_l2 (t1140 : (Int × ref12_Tape)) (s : ((List api_Got) × ref12_Tape × Int)) : Option (((List api_Got) × ref12_Tape × Int) ⊕ (ref12_Tape × (List api_Got))) :=
  match s with | (z1237, z1240, z1241) => (bif (decide (z1241 < t1140.1)) then ((ref12_Tape_Next z1240 (2:Int)).bind fun t1252 => ((ref12_Tape_Val t1252.2).bind fun t1257 => (gd (room z1237 ([({ Has := (t1252.1 == (0:Int)), Val := t1257.1 } : api_Got)])) (some (Sum.inl ((z1237 ++ ([({ Has := (t1252.1 == (0:Int)), Val := t1257.1 } : api_Got)])), t1257.2, (IntKind.i64.wrap (z1241 + (1:Int))))))))) else (inrO (some (z1240, z1237))))
noncomputable def ref13_OfReply_l5 (t1797 : (Int × ref12_Tape)) (s : (ref12_Tape × Int × (List api_Pair))) : Option ((ref12_Tape × Int × (List api_Pair)) ⊕ (ref12_Tape × (List api_Pair))) :=
  match s with | (z1888, z1889, z1890) => (bif (decide (z1889 < t1797.1)) then ((ref12_Tape_Float z1888).bind fun t1903 => ((ref12_Tape_Val t1903.2).bind fun t1908 => (gd (room z1890 ([({ At := t1903.1, Val := t1908.1 } : api_Pair)])) (some (Sum.inl (t1908.2, (IntKind.i64.wrap (z1889 + (1:Int))), (z1890 ++ ([({ At := t1903.1, Val := t1908.1 } : api_Pair)])))))))) else (inrO (some (z1888, z1890))))
noncomputable def ref13_OfReply_j4 (z1781 : (List (List api_Pair))) (z1785 : Int) (s : (ref12_Tape × (List api_Pair))) : Option (((List (List api_Pair)) × ref12_Tape × Int) ⊕ (api_Reply × ref12_Tape)) :=
  match s with | (z1929, z1932) => (gd (room z1781 ([z1932])) (some (Sum.inl ((z1781 ++ ([z1932])), z1929, (IntKind.i64.wrap (z1785 + (1:Int)))))))
noncomputable def ref13_OfReply_l3 (t1291 : (Int × ref12_Tape)) (z1132 : Int) (z1133 : Int) (z1134 : Int) (z1283 : (List api_Got)) (s : ((List (List api_Pair)) × ref12_Tape × Int)) : Option (((List (List api_Pair)) × ref12_Tape × Int) ⊕ (api_Reply × ref12_Tape)) :=
  match s with | (z1781, z1784, z1785) => (bif (decide (z1785 < (IntKind.i64.wrap (Int.tdiv t1291.1 (2:Int))))) then ((ref12_Tape_Next z1784 (3:Int)).bind fun t1797 => (((loopO (ref13_OfReply_l5 t1797) (t1797.2, (0:Int), []))).bind (ref13_OfReply_j4 z1781 z1785))) else (inrO (some (({ E := z1132, Epoch := z1133, Index := z1134, Gots := z1283, Scans := z1781 } : api_Reply), z1784))))
noncomputable def ref13_OfReply_j1 (z1132 : Int) (z1133 : Int) (z1134 : Int) (s : (ref12_Tape × (List api_Got))) : Option (api_Reply × ref12_Tape) :=
  match s with | (z1280, z1283) => ((ref12_Tape_Next z1280 (3:Int)).bind fun t1291 => (loopO (ref13_OfReply_l3 t1291 z1132 z1133 z1134 z1283) ([], t1291.2, (0:Int))))
noncomputable def ref13_OfReply_j0 (s : (ref12_Tape × Int × Int × Int)) : Option (api_Reply × ref12_Tape) :=
  match s with | (z1129, z1132, z1133, z1134) => ((ref12_Tape_Next z1129 (3:Int)).bind fun t1140 => (((loopO (ref13_OfReply_l2 t1140) ([], t1140.2, (0:Int)))).bind (ref13_OfReply_j1 z1132 z1133 z1134)))
noncomputable def ref13_OfReply (a0 : ref12_Tape) : Option (api_Reply × ref12_Tape) :=
  ((((ref12_Tape_Next a0 (6:Int)).bind fun t1030 => ((geto ([(0:Int), (0:Int), (0:Int), (8:Int), (9:Int), (3:Int)]) t1030.1).bind fun x1035 => ((ref12_Tape_Next t1030.2 (4:Int)).bind fun t1040 => ((ref12_Tape_Next t1040.2 (9:Int)).bind fun t1045 => (some (t1045.2, x1035, (IntKind.u64.wrap t1040.1), (IntKind.u64.wrap t1045.1)))))))).bind (ref13_OfReply_j0))

noncomputable def law14_SessionJunk_l2 (s : (ref12_Tape × session_Table × Int)) : Option ((ref12_Tape × session_Table × Int) ⊕ (session_Table)) :=
  match s with | (z360, z361, z362) => (bif (decide (z362 < (5:Int))) then ((ref12_Tape_Next z360 (6:Int)).bind fun t373 => ((ref12_Tape_Next t373.2 (5:Int)).bind fun t378 => ((ref13_OfReply t378.2).bind fun t383 => ((session_Table_Put (some z361) (IntKind.u64.wrap t373.1) (IntKind.u64.wrap (IntKind.i64.wrap ((1:Int) + t378.1))) t383.1).bind fun t398 => (match t398.2 with | none => none | some y403 => (some (Sum.inl (t383.2, y403, (IntKind.i64.wrap (z362 + (1:Int))))))))))) else (inrO (some z361)))
noncomputable def law14_SessionJunk_j1 (a2 : Int) (a3 : Int) (z405 : (session_Table)) : Option (Bool) :=
  ((session_Table_Encode (some z405)).bind fun t413 => (gd (!(((t413).length : Int) == (0:Int))) ((geto t413 (Int.tmod (IntKind.i64.wrap a2) ((t413).length : Int))).bind fun x421 => ((session_Decode (t413.set (Int.tmod (IntKind.i64.wrap a2) ((t413).length : Int)).toNat (bXor .u8 x421 a3))).bind fun t433 => (bif (t433.2 == (0:Int)) then ((session_Table_Encode t433.1).bind fun t441 => (bif (sEq (toStr t441) (toStr (t413.set (Int.tmod (IntKind.i64.wrap a2) ((t413).length : Int)).toNat (bXor .u8 x421 a3)))) then (some true) else (bif (t433.2 == (5:Int)) then (some (t433.1.isNone)) else (some false)))) else (bif (t433.2 == (5:Int)) then (some (t433.1.isNone)) else (some false)))))))
noncomputable def law14_SessionJunk_j0 (a1 : (List Int)) (a2 : Int) (a3 : Int) (_s : Unit) : Option (Bool) :=
  (session_New.bind fun t284 => (((loopO (law14_SessionJunk_l2) (({ L := a1, I := (0:Int) } : ref12_Tape), t284, (0:Int)))).bind (law14_SessionJunk_j1 a2 a3)))
noncomputable def law14_SessionJunk (a0 : (List Int)) (a1 : (List Int)) (a2 : Int) (a3 : Int) : Option (Bool) :=
  (law14_awake.bind fun t228 => (bif (!t228) then (law14_awake.bind fun t234 => (some t234)) else (bif (decide (((a0).length : Int) > (1000:Int))) then (law14_awake.bind fun t240 => (some t240)) else (bif (decide (((a1).length : Int) > (200:Int))) then (law14_awake.bind fun t246 => (some t246)) else ((session_Decode a0).bind fun t251 => (joinO (bif (t251.2 == (0:Int)) then ((session_Table_Encode t251.1).bind fun t259 => (bif (!(sEq (toStr t259) (toStr a0))) then (inrO (some false)) else (bif (t251.2 != (0:Int)) then (bif (t251.2 != (5:Int)) then (inrO (some false)) else (bif (!(t251.1.isNone)) then (inrO (some false)) else (some (Sum.inl ())))) else (some (Sum.inl ()))))) else (bif (t251.2 != (0:Int)) then (bif (t251.2 != (5:Int)) then (inrO (some false)) else (bif (!(t251.1.isNone)) then (inrO (some false)) else (some (Sum.inl ())))) else (some (Sum.inl ())))) (law14_SessionJunk_j0 a1 a2 a3)))))))

noncomputable def ref11_Last_l0 (a0 : (List ref11_Answer)) (a1 : Int) (z193 : (Int)) : Option ((Int) ⊕ (ref11_Answer)) :=
  (bif (decide (z193 < ((a0).length : Int))) then ((geto a0 z193).bind fun x203 => (bif (x203.Session == a1) then (inrO (some x203)) else (some (Sum.inl (IntKind.i64.wrap (z193 + (1:Int))))))) else (inrO (some ({ Session := a1, Seq := (0:Int), R := zero_api_Reply } : ref11_Answer))))
noncomputable def ref11_Last (a0 : (List ref11_Answer)) (a1 : Int) : Option (ref11_Answer) :=
  (loopO (ref11_Last_l0 a0 a1) (0:Int))

noncomputable def ref11_Tell_l0 (a0 : (List ref11_Answer)) (a1 : Int) (s : ((List ref11_Answer) × Int)) : Option (((List ref11_Answer) × Int) ⊕ ((List ref11_Answer) × Int)) :=
  match s with | (z279, z282) => (bif (decide (z282 < ((a0).length : Int))) then ((geto a0 z282).bind fun x292 => (bif (x292.Session != a1) then (gd (room z279 ([x292])) (some (Sum.inl ((z279 ++ ([x292])), (IntKind.i64.wrap (z282 + (1:Int))))))) else (some (Sum.inl (z279, (IntKind.i64.wrap (z282 + (1:Int)))))))) else (inrO (some (z279, (0:Int)))))
noncomputable def ref11_Tell (a0 : (List ref11_Answer)) (a1 : Int) (a2 : Int) (a3 : api_Reply) : Option ((List ref11_Answer) × Int) :=
  (bif (a2 == (0:Int)) then (some (a0, (1:Int))) else ((ref11_Last a0 a1).bind fun t200 => (bif (decide (t200.Seq ≥ a2)) then (some (a0, (10:Int))) else (loopO (ref11_Tell_l0 a0 a1) ([({ Session := a1, Seq := a2, R := a3 } : ref11_Answer)], (0:Int))))))

noncomputable def session_Table_Last (a0 : (Option session_Table)) (a1 : Int) : Option (Int) :=
  (match a0 with | none => ((session_Table_find none a1).bind fun t147 => (bif (!t147.2) then (some (0:Int)) else none)) | some o0 => ((session_Table_find (some o0) a1).bind fun t153 => (bif (!t153.2) then (some (0:Int)) else ((geto o0.l t153.1).bind fun x162 => (some x162.seq)))))

noncomputable def ref11_SameGots_l0 (a0 : (List api_Got)) (a1 : (List api_Got)) (z317 : (Int)) : Option ((Int) ⊕ (Bool)) :=
  (bif (decide (z317 < ((a0).length : Int))) then ((geto a0 z317).bind fun x327 => ((geto a1 z317).bind fun x338 => (bif (!(x327.Has == x338.Has)) then (inrO (some false)) else (bif (!(sEq (toStr x327.Val) (toStr x338.Val))) then (inrO (some false)) else (some (Sum.inl (IntKind.i64.wrap (z317 + (1:Int))))))))) else (inrO (some true)))
noncomputable def ref11_SameGots (a0 : (List api_Got)) (a1 : (List api_Got)) : Option (Bool) :=
  (bif (((a0).length : Int) != ((a1).length : Int)) then (some false) else (loopO (ref11_SameGots_l0 a0 a1) (0:Int)))

noncomputable def math_Signbit (a0 : Nat) : Option (Bool) :=
  (some (decide ((IntKind.i64.wrap (Int.ofNat a0)) < (0:Int))))

noncomputable def ref01_Ahead_j0 (a0 : Nat) (a1 : Nat) (_s : Unit) : Option (Bool) :=
  (some (fLt a0 a1))
noncomputable def ref01_Ahead (a0 : Nat) (a1 : Nat) : Option (Bool) :=
  (bif (fNe a0 a0) then (some false) else (bif (fNe a1 a1) then (some true) else (joinO (bif (fEq a0 (0:Nat)) then (bif (fEq a1 (0:Nat)) then ((math_Signbit a0).bind fun t211 => (bif t211 then ((math_Signbit a1).bind fun t217 => (inrO (some (!t217)))) else (inrO (some false)))) else (some (Sum.inl ()))) else (some (Sum.inl ()))) (ref01_Ahead_j0 a0 a1))))

noncomputable def ref01_Same (a0 : Nat) (a1 : Nat) : Option (Bool) :=
  ((ref01_Ahead a0 a1).bind fun t198 => (bif (!t198) then ((ref01_Ahead a1 a0).bind fun t204 => (some (!t204))) else (some false)))

noncomputable def ref11_SamePairs_l0 (a0 : (List api_Pair)) (a1 : (List api_Pair)) (z410 : (Int)) : Option ((Int) ⊕ (Bool)) :=
  (bif (decide (z410 < ((a0).length : Int))) then ((geto a0 z410).bind fun x420 => ((geto a1 z410).bind fun x431 => ((ref01_Same x420.At x431.At).bind fun t442 => (bif (!t442) then (inrO (some false)) else (bif (!(sEq (toStr x420.Val) (toStr x431.Val))) then (inrO (some false)) else (some (Sum.inl (IntKind.i64.wrap (z410 + (1:Int)))))))))) else (inrO (some true)))
noncomputable def ref11_SamePairs (a0 : (List api_Pair)) (a1 : (List api_Pair)) : Option (Bool) :=
  (bif (((a0).length : Int) != ((a1).length : Int)) then (some false) else (loopO (ref11_SamePairs_l0 a0 a1) (0:Int)))

noncomputable def ref11_SameReply_l0 (a0 : api_Reply) (a1 : api_Reply) (z362 : (Int)) : Option ((Int) ⊕ (Bool)) :=
  (bif (decide (z362 < ((a0.Scans).length : Int))) then ((geto a0.Scans z362).bind fun x372 => ((geto a1.Scans z362).bind fun x383 => ((ref11_SamePairs x372 x383).bind fun t394 => (bif (!t394) then (inrO (some false)) else (some (Sum.inl (IntKind.i64.wrap (z362 + (1:Int))))))))) else (inrO (some true)))
noncomputable def ref11_SameReply (a0 : api_Reply) (a1 : api_Reply) : Option (Bool) :=
  (bif (a0.E != a1.E) then (some false) else (bif (a0.Epoch != a1.Epoch) then (some false) else (bif (a0.Index != a1.Index) then (some false) else ((ref11_SameGots a0.Gots a1.Gots).bind fun t296 => (bif (!t296) then (some false) else (bif (((a0.Scans).length : Int) != ((a1.Scans).length : Int)) then (some false) else (loopO (ref11_SameReply_l0 a0 a1) (0:Int))))))))

noncomputable def law14_told_j3 (t1100 : (api_Reply × Int)) (t974 : (ref11_Answer)) (z1089 : Int) (z1129 : (Int)) : Option ((Int) ⊕ ((Int) ⊕ (Bool))) :=
  (bif (t1100.2 != z1129) then (inrO (inrO (some false))) else (bif (t1100.2 == (0:Int)) then ((ref11_SameReply t1100.1 t974.R).bind fun t1137 => (bif (!t1137) then (inrO (inrO (some false))) else (some (Sum.inl (IntKind.u64.wrap (z1089 + (1:Int))))))) else (some (Sum.inl (IntKind.u64.wrap (z1089 + (1:Int)))))))
noncomputable def law14_told_j2 (t974 : (ref11_Answer)) (z1089 : Int) (t1100 : (api_Reply × Int)) (z1121 : (Int)) : Option ((Int) ⊕ ((Int) ⊕ (Bool))) :=
  (((bif (t974.Seq == z1089) then (bif (decide (z1089 > (0:Int))) then (some (0:Int)) else (some z1121)) else (some z1121))).bind (law14_told_j3 t1100 t974 z1089))
noncomputable def law14_told_l1 (a0 : (Option session_Table)) (z963 : Int) (t974 : (ref11_Answer)) (z1089 : (Int)) : Option ((Int) ⊕ ((Int) ⊕ (Bool))) :=
  (bif (decide (z1089 < (8:Int))) then ((session_Table_Get a0 z963 z1089).bind fun t1100 => (((bif (decide (t974.Seq > z1089)) then (some (10:Int)) else (some (2:Int)))).bind (law14_told_j2 t974 z1089 t1100))) else (inrO (some (Sum.inl (IntKind.u64.wrap (z963 + (1:Int)))))))
noncomputable def law14_told_l0 (a1 : (List ref11_Answer)) (a0 : (Option session_Table)) (z963 : (Int)) : Option ((Int) ⊕ (Bool)) :=
  (bif (decide (z963 < (6:Int))) then ((ref11_Last a1 z963).bind fun t974 => ((session_Table_Last a0 z963).bind fun t994 => (bif (t994 != t974.Seq) then (inrO (some false)) else (loopO (law14_told_l1 a0 z963 t974) (0:Int))))) else (inrO (some true)))
noncomputable def law14_told (a0 : (Option session_Table)) (a1 : (List ref11_Answer)) : Option (Bool) :=
  ((session_Table_Len a0).bind fun t616 => (bif (t616 != ((a1).length : Int)) then (some false) else (loopO (law14_told_l0 a1 a0) (0:Int))))

noncomputable def law14_SessionPlays_l0 (s : (ref12_Tape × session_Table × (List ref11_Answer) × Int)) : Option ((ref12_Tape × session_Table × (List ref11_Answer) × Int) ⊕ (Bool)) :=
  match s with | (z498, z499, z500, z504) => (bif (decide (z504 < (25:Int))) then ((ref12_Tape_Next z498 (6:Int)).bind fun t515 => ((ref12_Tape_Next t515.2 (7:Int)).bind fun t520 => ((ref13_OfReply t520.2).bind fun t525 => ((ref11_Tell z500 (IntKind.u64.wrap t515.1) (IntKind.u64.wrap t520.1) t525.1).bind fun t549 => ((session_Table_Put (some z499) (IntKind.u64.wrap t515.1) (IntKind.u64.wrap t520.1) t525.1).bind fun t557 => (match t557.2 with | none => none | some y562 => (bif (t557.1 != t549.2) then (inrO (some false)) else ((law14_told (some y562) t549.1).bind fun t565 => (bif (!t565) then (inrO (some false)) else (some (Sum.inl (t525.2, y562, t549.1, (IntKind.i64.wrap (z504 + (1:Int))))))))))))))) else (inrO (some true)))
noncomputable def law14_SessionPlays (a0 : (List Int)) : Option (Bool) :=
  (law14_awake.bind fun t287 => (bif (!t287) then (law14_awake.bind fun t293 => (some t293)) else (bif (decide (((a0).length : Int) > (500:Int))) then (law14_awake.bind fun t299 => (some t299)) else (session_New.bind fun t310 => (loopO (law14_SessionPlays_l0) (({ L := a0, I := (0:Int) } : ref12_Tape), t310, [], (0:Int)))))))

noncomputable def law14_SessionRaw_j4 (t196 : (Int × (Option session_Table))) (z213 : Int) (y201 : session_Table) (a0 : Int) (z220 : Int) (t226 : (api_Reply × Int)) (s : (Int × Int × Int × (List api_Got) × (List (List api_Pair)))) : Option (Bool) :=
  match s with | (z256, z257, z258, z261, z265) => (bif (t196.1 == z213) then ((session_Table_Last (some y201) a0).bind fun t273 => (bif (t273 == z220) then (bif (t226.2 == (0:Int)) then ((ref11_SameReply t226.1 ({ E := z256, Epoch := z257, Index := z258, Gots := z261, Scans := z265 } : api_Reply)).bind fun t280 => (some t280)) else (some false)) else (some false))) else (some false))
noncomputable def law14_SessionRaw_j3 (y201 : session_Table) (a0 : Int) (t196 : (Int × (Option session_Table))) (z213 : Int) (a3 : api_Reply) (a4 : api_Reply) (z220 : (Int)) : Option (Bool) :=
  ((session_Table_Get (some y201) a0 z220).bind fun t226 => (bif (z220 == (0:Int)) then (bif (t196.1 == z213) then ((session_Table_Len (some y201)).bind fun t248 => (some (t248 == (0:Int)))) else (some false)) else (((bif (z213 != (0:Int)) then (some (a3.E, a3.Epoch, a3.Index, a3.Gots, a3.Scans)) else (some (a4.E, a4.Epoch, a4.Index, a4.Gots, a4.Scans)))).bind (law14_SessionRaw_j4 t196 z213 y201 a0 z220 t226))))
noncomputable def law14_SessionRaw_j2 (z176 : Int) (z175 : Int) (y201 : session_Table) (a0 : Int) (t196 : (Int × (Option session_Table))) (a3 : api_Reply) (a4 : api_Reply) (z213 : (Int)) : Option (Bool) :=
  (((bif (z213 == (0:Int)) then (some z176) else (some z175))).bind (law14_SessionRaw_j3 y201 a0 t196 z213 a3 a4))
noncomputable def law14_SessionRaw_j1 (z176 : Int) (z175 : Int) (y201 : session_Table) (a0 : Int) (t196 : (Int × (Option session_Table))) (a3 : api_Reply) (a4 : api_Reply) (_s : Unit) : Option (Bool) :=
  (((bif (z176 == (0:Int)) then (some (1:Int)) else (bif (decide (z176 ≤ z175)) then (some (10:Int)) else (some (0:Int))))).bind (law14_SessionRaw_j2 z176 z175 y201 a0 t196 a3 a4))
noncomputable def law14_SessionRaw_j0 (a0 : Int) (a3 : api_Reply) (a4 : api_Reply) (s : (Int × Int)) : Option (Bool) :=
  match s with | (z175, z176) => (session_New.bind fun t182 => ((session_Table_Put (some t182) a0 z175 a3).bind fun t189 => (match t189.2 with | none => none | some y194 => ((session_Table_Put (some y194) a0 z176 a4).bind fun t196 => (match t196.2 with | none => none | some y201 => (joinO (bif (!((t189.1 == (0:Int)) == (z175 != (0:Int)))) then (inrO (some false)) else (bif (z175 == (0:Int)) then (bif (t189.1 != (1:Int)) then (inrO (some false)) else (some (Sum.inl ()))) else (some (Sum.inl ())))) (law14_SessionRaw_j1 z176 z175 y201 a0 t196 a3 a4)))))))
noncomputable def law14_SessionRaw (a0 : Int) (a1 : Int) (a2 : Int) (a3 : api_Reply) (a4 : api_Reply) (a5 : Bool) : Option (Bool) :=
  (law14_awake.bind fun t157 => (bif (!t157) then (law14_awake.bind fun t163 => (some t163)) else (bif (decide ((IntKind.i64.wrap ((IntKind.i64.wrap ((IntKind.i64.wrap (((a3.Gots).length : Int) + ((a3.Scans).length : Int))) + ((a4.Gots).length : Int))) + ((a4.Scans).length : Int))) > (100:Int))) then (law14_awake.bind fun t169 => (some t169)) else (((bif a5 then (some ((Int.tmod a1 (4:Int)), (Int.tmod a2 (4:Int)))) else (some (a1, a2)))).bind (law14_SessionRaw_j0 a0 a3 a4)))))
end Go.Proofs.Ytkfifhkjdibadaa
