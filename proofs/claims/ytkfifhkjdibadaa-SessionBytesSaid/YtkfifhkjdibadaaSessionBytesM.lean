/- The models of the Go functions: plain Lean, no memory. -/
import Derived.Test.YtkfifhkjdibadaaSessionBytesGv
set_option linter.unusedVariables false
set_option linter.unusedSimpArgs false
set_option maxRecDepth 100000
set_option maxHeartbeats 4000000
namespace Go.Proofs.Ytkfifhkjdibadaa
open Go Go.V
structure api_Got where
  Has : Bool
  Val : (List Int)

structure api_Pair where
  At : Nat
  Val : (List Int)

structure api_Reply where
  E : Int
  Epoch : Int
  Index : Int
  Gots : (List api_Got)
  Scans : (List (List api_Pair))

structure session_row where
  session : Int
  seq : Int
  r : api_Reply

structure session_Table where
  l : (List session_row)

structure ref12_Tape where
  L : (List Int)
  I : Int

structure ref11_Answer where
  Session : Int
  Seq : Int
  R : api_Reply

structure octet_Writer where
  p : (List Int)

structure octet_Reader where
  p : (List Int)
  bad : Bool

def zero_api_Reply : api_Reply := { E := (0:Int), Epoch := (0:Int), Index := (0:Int), Gots := [], Scans := [] }

noncomputable def session_New : Option (session_Table) :=
  (some ({ l := [] } : session_Table))

noncomputable def cmp_isNaN_uint64 (a0 : Int) : Option (Bool) :=
  (some (a0 != a0))

noncomputable def cmp_Compare_uint64 (a0 : Int) (a1 : Int) : Option (Int) :=
  ((cmp_isNaN_uint64 a0).bind fun t69 => ((cmp_isNaN_uint64 a1).bind fun t74 => (bif t69 then (bif t74 then (some (0:Int)) else (some ((-1):Int))) else (bif t74 then (some (1:Int)) else (bif (decide (a0 < a1)) then (some ((-1):Int)) else (bif (decide (a0 > a1)) then (some (1:Int)) else (some (0:Int))))))))

noncomputable def session_Table_find_1 (a0 : session_row) (a1 : Int) : Option (Int) :=
  ((cmp_Compare_uint64 a0.session a1).bind fun t66 => (some t66))

noncomputable def session_Table_find_l1 (o0 : session_Table) (a1 : Int) (s : (Int × Int)) : Option ((Int × Int) ⊕ (Int)) :=
  match s with | (z187, z188) => (bif (decide (z188 < z187)) then ((geto o0.l (IntKind.i64.wrap (iShr .u64 (IntKind.u64.wrap (IntKind.i64.wrap (z188 + z187))) (1:Int)))).bind fun x198 => ((session_Table_find_1 x198 a1).bind fun t212 => (bif (decide (t212 < (0:Int))) then (some (Sum.inl (z187, (IntKind.i64.wrap ((IntKind.i64.wrap (iShr .u64 (IntKind.u64.wrap (IntKind.i64.wrap (z188 + z187))) (1:Int))) + (1:Int)))))) else (some (Sum.inl ((IntKind.i64.wrap (iShr .u64 (IntKind.u64.wrap (IntKind.i64.wrap (z188 + z187))) (1:Int))), z188)))))) else (inrO (some z188)))
noncomputable def session_Table_find_j0 (o0 : session_Table) (a1 : Int) (z218 : (Int)) : Option (Int × Bool) :=
  (bif (decide (z218 < ((o0.l).length : Int))) then ((geto o0.l z218).bind fun x225 => ((session_Table_find_1 x225 a1).bind fun t239 => (some (z218, (t239 == (0:Int)))))) else (some (z218, false)))
noncomputable def session_Table_find (a0 : (Option session_Table)) (a1 : Int) : Option (Int × Bool) :=
  (match a0 with | none => (some ((0:Int), false)) | some o0 => ((((loopO (session_Table_find_l1 o0 a1) (((o0.l).length : Int), (0:Int)))).bind (session_Table_find_j0 o0 a1)).bind fun (z244, z245) => (some (z244, z245))))

noncomputable def slices_Insert_session_row_session_row (a0 : (List session_row)) (a1 : Int) (a2 : (List session_row)) : Option ((List session_row)) :=
  gd (insOK a0 a1 a2) (some (ins a0 a1 a2))

noncomputable def session_Table_Put_j1 (t153 : (Int × Bool)) (a2 : Int) (a3 : api_Reply) (z208 : (session_Table)) : Option (Int × (Option session_Table)) :=
  ((geto z208.l t153.1).bind fun x218 => (some ((0:Int), (some ({ l := ((z208.l.set t153.1.toNat ({ session := x218.session, seq := a2, r := x218.r } : session_row)).set t153.1.toNat ({ session := ({ session := x218.session, seq := a2, r := x218.r } : session_row).session, seq := ({ session := x218.session, seq := a2, r := x218.r } : session_row).seq, r := a3 } : session_row)) } : session_Table)))))
noncomputable def session_Table_Put_j0 (t153 : (Int × Bool)) (o0 : session_Table) (a1 : Int) (a2 : Int) (a3 : api_Reply) (_s : Unit) : Option (Int × (Option session_Table)) :=
  (((bif (!t153.2) then ((slices_Insert_session_row_session_row o0.l t153.1 ([({ session := a1, seq := (0:Int), r := zero_api_Reply } : session_row)])).bind fun t199 => (some ({ l := t199 } : session_Table))) else (some o0))).bind (session_Table_Put_j1 t153 a2 a3))
noncomputable def session_Table_Put (a0 : (Option session_Table)) (a1 : Int) (a2 : Int) (a3 : api_Reply) : Option (Int × (Option session_Table)) :=
  (match a0 with | none => (some ((2:Int), none)) | some o0 => (bif (a2 == (0:Int)) then (some ((1:Int), (some o0))) else ((session_Table_find (some o0) a1).bind fun t153 => (joinO (bif t153.2 then ((geto o0.l t153.1).bind fun x163 => (bif (decide (x163.seq ≥ a2)) then (inrO (some ((10:Int), (some o0)))) else (some (Sum.inl ())))) else (some (Sum.inl ()))) (session_Table_Put_j0 t153 o0 a1 a2 a3)))))

noncomputable def session_Table_Get (a0 : (Option session_Table)) (a1 : Int) (a2 : Int) : Option (api_Reply × Int) :=
  (match a0 with | none => ((session_Table_find none a1).bind fun t95 => (bif (!t95.2) then (some (zero_api_Reply, (2:Int))) else none)) | some o0 => ((session_Table_find (some o0) a1).bind fun t114 => (bif (!t114.2) then (some (zero_api_Reply, (2:Int))) else ((geto o0.l t114.1).bind fun x129 => (bif (decide (x129.seq < a2)) then (some (zero_api_Reply, (2:Int))) else (bif (decide (x129.seq > a2)) then (some (zero_api_Reply, (10:Int))) else (some (x129.r, (0:Int)))))))))

noncomputable def law14_awake : Option (Bool) :=
  (session_New.bind fun t84 => ((session_Table_Put (some t84) (1:Int) (2:Int) ({ E := (0:Int), Epoch := (9:Int), Index := (0:Int), Gots := [], Scans := [] } : api_Reply)).bind fun t95 => (match t95.2 with | none => none | some y100 => (bif (t95.1 != (0:Int)) then (some false) else ((session_Table_Get (some y100) (1:Int) (2:Int)).bind fun t103 => ((session_Table_Get (some y100) (1:Int) (1:Int)).bind fun t123 => ((session_Table_Get (some y100) (1:Int) (3:Int)).bind fun t143 => (bif (t103.2 == (0:Int)) then (bif (t103.1.Epoch == (9:Int)) then (bif (t123.2 == (10:Int)) then (some (t143.2 == (2:Int))) else (some false)) else (some false)) else (some false)))))))))

noncomputable def ref12_Tape_Next (a0 : ref12_Tape) (a1 : Int) : Option (Int × ref12_Tape) :=
  (bif (decide (a0.I ≥ ((a0.L).length : Int))) then (some ((0:Int), a0)) else ((geto a0.L (IntKind.i64.wrap ((IntKind.i64.wrap (a0.I + (1:Int))) - (1:Int)))).bind fun x56 => (gd (!(a1 == (0:Int))) (some ((Int.tmod (IntKind.i64.wrap x56) a1), ({ L := a0.L, I := (IntKind.i64.wrap (a0.I + (1:Int))) } : ref12_Tape))))))

noncomputable def ref12_Tape_Val_l0 (t262 : (Int × ref12_Tape)) (s : (ref12_Tape × (List Int) × Int)) : Option ((ref12_Tape × (List Int) × Int) ⊕ ((List Int) × ref12_Tape)) :=
  match s with | (z317, z318, z321) => (bif (decide (z321 < t262.1)) then ((ref12_Tape_Next z317 (26:Int)).bind fun t331 => (gd (room z318 ([(IntKind.u8.wrap (IntKind.i64.wrap ((97:Int) + t331.1)))])) (some (Sum.inl (t331.2, (z318 ++ ([(IntKind.u8.wrap (IntKind.i64.wrap ((97:Int) + t331.1)))])), (IntKind.i64.wrap (z321 + (1:Int)))))))) else (inrO (some (z318, z317))))
noncomputable def ref12_Tape_Val (a0 : ref12_Tape) : Option ((List Int) × ref12_Tape) :=
  ((ref12_Tape_Next a0 (4:Int)).bind fun t262 => (loopO (ref12_Tape_Val_l0 t262) (t262.2, [], (0:Int))))

noncomputable def ref12_small (a0 : Int) : Option (Nat) :=
  ((geto ([(0:Nat), (4607182418800017408:Nat), (13830554455654793216:Nat), (4612811918334230528:Nat), (9094988921128908188:Nat), (18318360957983683996:Nat), (4602678819172646912:Nat), (4613937818241073152:Nat)]) (Int.tmod a0 (8:Int))).bind fun x352 => (some x352))

noncomputable def ref12_Tape_Float (a0 : ref12_Tape) : Option (Nat × ref12_Tape) :=
  ((ref12_Tape_Next a0 (8:Int)).bind fun t343 => ((ref12_small (IntKind.u8.wrap t343.1)).bind fun t348 => (some (t348, t343.2))))

noncomputable def ref13_OfReply_l2 (t1107 : (Int × ref12_Tape)) (s : ((List api_Got) × ref12_Tape × Int)) : Option (((List api_Got) × ref12_Tape × Int) ⊕ (ref12_Tape × (List api_Got))) :=
  match s with | (z1204, z1207, z1208) => (bif (decide (z1208 < t1107.1)) then ((ref12_Tape_Next z1207 (2:Int)).bind fun t1219 => ((ref12_Tape_Val t1219.2).bind fun t1224 => (gd (room z1204 ([({ Has := (t1219.1 == (0:Int)), Val := t1224.1 } : api_Got)])) (some (Sum.inl ((z1204 ++ ([({ Has := (t1219.1 == (0:Int)), Val := t1224.1 } : api_Got)])), t1224.2, (IntKind.i64.wrap (z1208 + (1:Int))))))))) else (inrO (some (z1207, z1204))))
noncomputable def ref13_OfReply_l5 (t1764 : (Int × ref12_Tape)) (s : (ref12_Tape × Int × (List api_Pair))) : Option ((ref12_Tape × Int × (List api_Pair)) ⊕ (ref12_Tape × (List api_Pair))) :=
  match s with | (z1855, z1856, z1857) => (bif (decide (z1856 < t1764.1)) then ((ref12_Tape_Float z1855).bind fun t1870 => ((ref12_Tape_Val t1870.2).bind fun t1875 => (gd (room z1857 ([({ At := t1870.1, Val := t1875.1 } : api_Pair)])) (some (Sum.inl (t1875.2, (IntKind.i64.wrap (z1856 + (1:Int))), (z1857 ++ ([({ At := t1870.1, Val := t1875.1 } : api_Pair)])))))))) else (inrO (some (z1855, z1857))))
noncomputable def ref13_OfReply_j4 (z1748 : (List (List api_Pair))) (z1752 : Int) (s : (ref12_Tape × (List api_Pair))) : Option (((List (List api_Pair)) × ref12_Tape × Int) ⊕ (api_Reply × ref12_Tape)) :=
  match s with | (z1896, z1899) => (gd (room z1748 ([z1899])) (some (Sum.inl ((z1748 ++ ([z1899])), z1896, (IntKind.i64.wrap (z1752 + (1:Int)))))))
noncomputable def ref13_OfReply_l3 (t1258 : (Int × ref12_Tape)) (z1099 : Int) (z1100 : Int) (z1101 : Int) (z1250 : (List api_Got)) (s : ((List (List api_Pair)) × ref12_Tape × Int)) : Option (((List (List api_Pair)) × ref12_Tape × Int) ⊕ (api_Reply × ref12_Tape)) :=
  match s with | (z1748, z1751, z1752) => (bif (decide (z1752 < (IntKind.i64.wrap (Int.tdiv t1258.1 (2:Int))))) then ((ref12_Tape_Next z1751 (3:Int)).bind fun t1764 => (((loopO (ref13_OfReply_l5 t1764) (t1764.2, (0:Int), []))).bind (ref13_OfReply_j4 z1748 z1752))) else (inrO (some (({ E := z1099, Epoch := z1100, Index := z1101, Gots := z1250, Scans := z1748 } : api_Reply), z1751))))
noncomputable def ref13_OfReply_j1 (z1099 : Int) (z1100 : Int) (z1101 : Int) (s : (ref12_Tape × (List api_Got))) : Option (api_Reply × ref12_Tape) :=
  match s with | (z1247, z1250) => ((ref12_Tape_Next z1247 (3:Int)).bind fun t1258 => (loopO (ref13_OfReply_l3 t1258 z1099 z1100 z1101 z1250) ([], t1258.2, (0:Int))))
noncomputable def ref13_OfReply_j0 (s : (ref12_Tape × Int × Int × Int)) : Option (api_Reply × ref12_Tape) :=
  match s with | (z1096, z1099, z1100, z1101) => ((ref12_Tape_Next z1096 (3:Int)).bind fun t1107 => (((loopO (ref13_OfReply_l2 t1107) ([], t1107.2, (0:Int)))).bind (ref13_OfReply_j1 z1099 z1100 z1101)))
noncomputable def ref13_OfReply (a0 : ref12_Tape) : Option (api_Reply × ref12_Tape) :=
  ((((ref12_Tape_Next a0 (6:Int)).bind fun t997 => ((geto ([(0:Int), (0:Int), (0:Int), (8:Int), (9:Int), (3:Int)]) t997.1).bind fun x1002 => ((ref12_Tape_Next t997.2 (4:Int)).bind fun t1007 => ((ref12_Tape_Next t1007.2 (9:Int)).bind fun t1012 => (some (t1012.2, x1002, (IntKind.u64.wrap t1007.1), (IntKind.u64.wrap t1012.1)))))))).bind (ref13_OfReply_j0))

noncomputable def ref11_Last_l0 (a0 : (List ref11_Answer)) (a1 : Int) (z193 : (Int)) : Option ((Int) ⊕ (ref11_Answer)) :=
  (bif (decide (z193 < ((a0).length : Int))) then ((geto a0 z193).bind fun x203 => (bif (x203.Session == a1) then (inrO (some x203)) else (some (Sum.inl (IntKind.i64.wrap (z193 + (1:Int))))))) else (inrO (some ({ Session := a1, Seq := (0:Int), R := zero_api_Reply } : ref11_Answer))))
noncomputable def ref11_Last (a0 : (List ref11_Answer)) (a1 : Int) : Option (ref11_Answer) :=
  (loopO (ref11_Last_l0 a0 a1) (0:Int))

noncomputable def ref11_Tell_l0 (a0 : (List ref11_Answer)) (a1 : Int) (s : ((List ref11_Answer) × Int)) : Option (((List ref11_Answer) × Int) ⊕ ((List ref11_Answer) × Int)) :=
  match s with | (z279, z282) => (bif (decide (z282 < ((a0).length : Int))) then ((geto a0 z282).bind fun x292 => (bif (x292.Session != a1) then (gd (room z279 ([x292])) (some (Sum.inl ((z279 ++ ([x292])), (IntKind.i64.wrap (z282 + (1:Int))))))) else (some (Sum.inl (z279, (IntKind.i64.wrap (z282 + (1:Int)))))))) else (inrO (some (z279, (0:Int)))))
noncomputable def ref11_Tell (a0 : (List ref11_Answer)) (a1 : Int) (a2 : Int) (a3 : api_Reply) : Option ((List ref11_Answer) × Int) :=
  (bif (a2 == (0:Int)) then (some (a0, (1:Int))) else ((ref11_Last a0 a1).bind fun t200 => (bif (decide (t200.Seq ≥ a2)) then (some (a0, (10:Int))) else (loopO (ref11_Tell_l0 a0 a1) ([({ Session := a1, Seq := a2, R := a3 } : ref11_Answer)], (0:Int))))))

noncomputable def session_Table_Len (a0 : (Option session_Table)) : Option (Int) :=
  (match a0 with | none => (some (0:Int)) | some o0 => (some ((o0.l).length : Int)))

noncomputable def octet_Writer_lay (a0 : octet_Writer) (a1 : (List Int)) : Option (octet_Writer) :=
  (gd (room a0.p a1) (some ({ p := (a0.p ++ a1) } : octet_Writer)))

noncomputable def octet_Writer_Num_l0 (a2 : Int) (a1 : Int) (s : (octet_Writer × Int)) : Option ((octet_Writer × Int) ⊕ (octet_Writer)) :=
  match s with | (z186, z187) => (bif (decide (z187 < a2)) then (gd (decide ((0:Int) ≤ (IntKind.i64.wrap ((8:Int) * z187)))) ((octet_Writer_lay z186 ([(IntKind.u8.wrap (iShr .u64 a1 (IntKind.i64.wrap ((8:Int) * z187))))])).bind fun t205 => (some (Sum.inl (t205, (IntKind.i64.wrap (z187 + (1:Int)))))))) else (inrO (some z186)))
noncomputable def octet_Writer_Num (a0 : octet_Writer) (a1 : Int) (a2 : Int) : Option (octet_Writer) :=
  (loopO (octet_Writer_Num_l0 a2 a1) (a0, (0:Int)))

noncomputable def octet_Writer_Done (a0 : octet_Writer) : Option ((List Int)) :=
  (some a0.p)

noncomputable def octet_Writer_Flag (a0 : octet_Writer) (a1 : Bool) : Option (octet_Writer) :=
  (bif a1 then ((octet_Writer_Num a0 (1:Int) (1:Int)).bind fun t252 => (some t252)) else ((octet_Writer_Num a0 (0:Int) (1:Int)).bind fun t257 => (some t257)))

noncomputable def octet_Writer_Bytes (a0 : octet_Writer) (a1 : (List Int)) : Option (octet_Writer) :=
  ((octet_Writer_Num a0 (IntKind.u64.wrap ((a1).length : Int)) (4:Int)).bind fun t252 => ((octet_Writer_lay t252 a1).bind fun t257 => (some t257)))

noncomputable def math_IsNaN (a0 : Nat) : Option (Bool) :=
  (some (fNe a0 a0))

noncomputable def number_Rank (a0 : Nat) : Option (Int) :=
  ((math_IsNaN a0).bind fun t375 => (bif t375 then (some (18446744073709551615:Int)) else (bif ((iShr .u64 (Int.ofNat a0) (63:Int)) == (1:Int)) then (some (bXor .u64 ((18446744073709551615):Int) (Int.ofNat a0))) else (some (bOr .u64 (Int.ofNat a0) (9223372036854775808:Int))))))

noncomputable def command_LayReply_l1 (a1 : api_Reply) (s : (octet_Writer × Int)) : Option ((octet_Writer × Int) ⊕ (octet_Writer)) :=
  match s with | (z835, z836) => (bif (decide (z836 < ((a1.Gots).length : Int))) then ((geto a1.Gots z836).bind fun x846 => ((octet_Writer_Flag z835 x846.Has).bind fun t865 => ((octet_Writer_Bytes t865 x846.Val).bind fun t870 => (some (Sum.inl (t870, (IntKind.i64.wrap (z836 + (1:Int))))))))) else (inrO (some z835)))
noncomputable def command_LayReply_l3 (x1167 : (List api_Pair)) (z1157 : Int) (s : (octet_Writer × Int)) : Option ((octet_Writer × Int) ⊕ ((octet_Writer × Int) ⊕ (octet_Writer))) :=
  match s with | (z1255, z1256) => (bif (decide (z1256 < ((x1167).length : Int))) then ((geto x1167 z1256).bind fun x1266 => ((number_Rank x1266.At).bind fun t1285 => ((octet_Writer_Num z1255 t1285 (8:Int)).bind fun t1290 => ((octet_Writer_Bytes t1290 x1266.Val).bind fun t1295 => (some (Sum.inl (t1295, (IntKind.i64.wrap (z1256 + (1:Int)))))))))) else (inrO (some (Sum.inl (z1255, (IntKind.i64.wrap (z1157 + (1:Int))))))))
noncomputable def command_LayReply_l2 (a1 : api_Reply) (s : (octet_Writer × Int)) : Option ((octet_Writer × Int) ⊕ (octet_Writer)) :=
  match s with | (z1156, z1157) => (bif (decide (z1157 < ((a1.Scans).length : Int))) then ((geto a1.Scans z1157).bind fun x1167 => ((octet_Writer_Num z1156 (IntKind.u64.wrap ((x1167).length : Int)) (4:Int)).bind fun t1178 => (loopO (command_LayReply_l3 x1167 z1157) (t1178, (0:Int))))) else (inrO (some z1156)))
noncomputable def command_LayReply_j0 (a1 : api_Reply) (z875 : (octet_Writer)) : Option (octet_Writer) :=
  ((octet_Writer_Num z875 (IntKind.u64.wrap ((a1.Scans).length : Int)) (4:Int)).bind fun t881 => (loopO (command_LayReply_l2 a1) (t881, (0:Int))))
noncomputable def command_LayReply (a0 : octet_Writer) (a1 : api_Reply) : Option (octet_Writer) :=
  ((octet_Writer_Num a0 (IntKind.u64.wrap a1.E) (1:Int)).bind fun t753 => ((octet_Writer_Num t753 a1.Epoch (8:Int)).bind fun t758 => ((octet_Writer_Num t758 a1.Index (8:Int)).bind fun t763 => ((octet_Writer_Num t763 (IntKind.u64.wrap ((a1.Gots).length : Int)) (4:Int)).bind fun t768 => (((loopO (command_LayReply_l1 a1) (t768, (0:Int)))).bind (command_LayReply_j0 a1))))))

noncomputable def session_Table_Encode_l0 (t323 : (Int)) (t317 : (octet_Writer)) (_s : Unit) : Option (Unit ⊕ ((List Int))) :=
  (bif (decide ((0:Int) < t323)) then none else (inrO ((octet_Writer_Done t317).bind fun t338 => (some t338))))
noncomputable def session_Table_Encode_l1 (t363 : (Int)) (o0 : session_Table) (s : (octet_Writer × Int)) : Option ((octet_Writer × Int) ⊕ ((List Int))) :=
  match s with | (z458, z459) => (bif (decide (z459 < t363)) then ((geto o0.l z459).bind fun x474 => ((octet_Writer_Num z458 x474.session (8:Int)).bind fun t488 => ((octet_Writer_Num t488 x474.seq (8:Int)).bind fun t493 => ((command_LayReply t493 x474.r).bind fun t507 => (some (Sum.inl (t507, (IntKind.i64.wrap (z459 + (1:Int)))))))))) else (inrO ((octet_Writer_Done z458).bind fun t512 => (some t512))))
noncomputable def session_Table_Encode (a0 : (Option session_Table)) : Option ((List Int)) :=
  (match a0 with | none => ((session_Table_Len none).bind fun t312 => ((octet_Writer_Num ({ p := [] } : octet_Writer) (IntKind.u64.wrap t312) (4:Int)).bind fun t317 => ((session_Table_Len none).bind fun t323 => (loopO (session_Table_Encode_l0 t323 t317) ())))) | some o0 => ((session_Table_Len (some o0)).bind fun t353 => ((octet_Writer_Num ({ p := [] } : octet_Writer) (IntKind.u64.wrap t353) (4:Int)).bind fun t358 => ((session_Table_Len (some o0)).bind fun t363 => (loopO (session_Table_Encode_l1 t363 o0) (t358, (0:Int)))))))

noncomputable def octet_Read (a0 : (List Int)) : Option (octet_Reader) :=
  (some ({ p := a0, bad := false } : octet_Reader))

noncomputable def octet_Reader_Bad (a0 : octet_Reader) : Option (Bool) :=
  (some a0.bad)

noncomputable def octet_Reader_Left (a0 : octet_Reader) : Option (Int) :=
  ((octet_Reader_Bad a0).bind fun t119 => (bif t119 then (some (0:Int)) else (some ((a0.p).length : Int))))

noncomputable def octet_Reader_spoil (a0 : octet_Reader) : Option (octet_Reader) :=
  (some ({ p := a0.p, bad := true } : octet_Reader))

noncomputable def octet_Reader_Num_l1 (a1 : Int) (a0 : octet_Reader) (s : (Int × Int)) : Option ((Int × Int) ⊕ (Int)) :=
  match s with | (z252, z253) => (bif (decide (z252 < (if (8:Int) < a1 then (8:Int) else a1))) then ((geto a0.p z252).bind fun x268 => (gd (decide ((0:Int) ≤ (IntKind.i64.wrap ((8:Int) * z252)))) (some (Sum.inl ((IntKind.i64.wrap (z252 + (1:Int))), (bOr .u64 z253 (iShl .u64 (IntKind.u64.wrap x268) (IntKind.i64.wrap ((8:Int) * z252))))))))) else (inrO (some z253)))
noncomputable def octet_Reader_Num_j0 (a0 : octet_Reader) (a1 : Int) (z274 : (Int)) : Option (Int × octet_Reader) :=
  (gd (fits a0.p a1 (((a0.p).length : Nat) : Int)) (some (z274, ({ p := (subs a0.p a1 (((a0.p).length : Nat) : Int)), bad := a0.bad } : octet_Reader))))
noncomputable def octet_Reader_Num (a0 : octet_Reader) (a1 : Int) : Option (Int × octet_Reader) :=
  (bif a0.bad then ((octet_Reader_spoil a0).bind fun t209 => (some ((0:Int), t209))) else (bif (decide (a1 < (0:Int))) then ((octet_Reader_spoil a0).bind fun t215 => (some ((0:Int), t215))) else (bif (decide (((a0.p).length : Int) < a1)) then ((octet_Reader_spoil a0).bind fun t221 => (some ((0:Int), t221))) else (((loopO (octet_Reader_Num_l1 a1 a0) ((0:Int), (0:Int)))).bind (octet_Reader_Num_j0 a0 a1)))))

noncomputable def octet_Reader_Count (a0 : octet_Reader) (a1 : Int) : Option (Int × octet_Reader) :=
  ((octet_Reader_Num a0 (4:Int)).bind fun t131 => (bif (decide (a1 < (0:Int))) then ((octet_Reader_spoil t131.2).bind fun t137 => (some ((0:Int), t137))) else (bif (decide (t131.1 > (IntKind.u64.wrap a1))) then ((octet_Reader_spoil t131.2).bind fun t143 => (some ((0:Int), t143))) else (some ((IntKind.i64.wrap t131.1), t131.2)))))

noncomputable def octet_Reader_Flag (a0 : octet_Reader) : Option (Bool × octet_Reader) :=
  ((octet_Reader_Num a0 (1:Int)).bind fun t181 => (bif (decide (t181.1 > (1:Int))) then ((octet_Reader_spoil t181.2).bind fun t187 => (some (false, t187))) else (some ((t181.1 == (1:Int)), t181.2))))

noncomputable def octet_Reader_Bytes (a0 : octet_Reader) (a1 : Int) : Option ((List Int) × octet_Reader) :=
  ((octet_Reader_Num a0 (4:Int)).bind fun t228 => (bif t228.2.bad then ((octet_Reader_spoil t228.2).bind fun t238 => (some ([], t238))) else (bif (decide (a1 < (0:Int))) then ((octet_Reader_spoil t228.2).bind fun t245 => (some ([], t245))) else (bif (decide (t228.1 > (IntKind.u64.wrap a1))) then ((octet_Reader_spoil t228.2).bind fun t252 => (some ([], t252))) else (bif (decide (t228.1 > (IntKind.u64.wrap ((t228.2.p).length : Int)))) then ((octet_Reader_spoil t228.2).bind fun t259 => (some ([], t259))) else (gd (fits t228.2.p (0:Int) t228.1) (gd (room ([] : List Int) (subs t228.2.p (0:Int) t228.1)) (gd (fits t228.2.p t228.1 (((t228.2.p).length : Nat) : Int)) (some ((subs t228.2.p (0:Int) t228.1), ({ p := (subs t228.2.p t228.1 (((t228.2.p).length : Nat) : Int)), bad := t228.2.bad } : octet_Reader)))))))))))

noncomputable def number_Back (a0 : Int) : Option (Nat) :=
  (bif ((iShr .u64 a0 (63:Int)) == (1:Int)) then (some (Int.toNat (bAndNot .u64 a0 (9223372036854775808:Int)))) else (some (Int.toNat (bXor .u64 ((18446744073709551615):Int) a0))))

noncomputable def command_ReadReply_l1 (t1093 : (Int × octet_Reader)) (s : ((List api_Got) × octet_Reader × Int)) : Option (((List api_Got) × octet_Reader × Int) ⊕ (octet_Reader × (List api_Got))) :=
  match s with | (z1190, z1193, z1194) => (bif (decide (z1194 < t1093.1)) then ((octet_Reader_Flag z1193).bind fun t1205 => ((octet_Reader_Bytes t1205.2 (256:Int)).bind fun t1210 => (gd (room z1190 ([({ Has := t1205.1, Val := t1210.1 } : api_Got)])) (some (Sum.inl ((z1190 ++ ([({ Has := t1205.1, Val := t1210.1 } : api_Got)])), t1210.2, (IntKind.i64.wrap (z1194 + (1:Int))))))))) else (inrO (some (z1193, z1190))))
noncomputable def command_ReadReply_l4 (t1810 : (Int × octet_Reader)) (s : (octet_Reader × Int × (List api_Pair))) : Option ((octet_Reader × Int × (List api_Pair)) ⊕ (octet_Reader × (List api_Pair))) :=
  match s with | (z1916, z1917, z1918) => (bif (decide (z1917 < t1810.1)) then ((octet_Reader_Num z1916 (8:Int)).bind fun t1931 => ((number_Back t1931.1).bind fun t1936 => ((octet_Reader_Bytes t1931.2 (256:Int)).bind fun t1941 => (gd (room z1918 ([({ At := t1936, Val := t1941.1 } : api_Pair)])) (some (Sum.inl (t1941.2, (IntKind.i64.wrap (z1917 + (1:Int))), (z1918 ++ ([({ At := t1936, Val := t1941.1 } : api_Pair)]))))))))) else (inrO (some (z1916, z1918))))
noncomputable def command_ReadReply_j3 (z1794 : (List (List api_Pair))) (z1798 : Int) (s : (octet_Reader × (List api_Pair))) : Option (((List (List api_Pair)) × octet_Reader × Int) ⊕ (api_Reply × octet_Reader)) :=
  match s with | (z1962, z1965) => (gd (room z1794 ([z1965])) (some (Sum.inl ((z1794 ++ ([z1965])), z1962, (IntKind.i64.wrap (z1798 + (1:Int)))))))
noncomputable def command_ReadReply_l2 (t1244 : (Int × octet_Reader)) (t1067 : (Int × octet_Reader)) (t1072 : (Int × octet_Reader)) (t1077 : (Int × octet_Reader)) (z1236 : (List api_Got)) (s : ((List (List api_Pair)) × octet_Reader × Int)) : Option (((List (List api_Pair)) × octet_Reader × Int) ⊕ (api_Reply × octet_Reader)) :=
  match s with | (z1794, z1797, z1798) => (bif (decide (z1798 < t1244.1)) then ((((octet_Reader_Count z1797 (64:Int)).bind fun t1810 => (loopO (command_ReadReply_l4 t1810) (t1810.2, (0:Int), [])))).bind (command_ReadReply_j3 z1794 z1798)) else (inrO (some (({ E := (IntKind.i64.wrap t1067.1), Epoch := t1072.1, Index := t1077.1, Gots := z1236, Scans := z1794 } : api_Reply), z1797))))
noncomputable def command_ReadReply_j0 (t1067 : (Int × octet_Reader)) (t1072 : (Int × octet_Reader)) (t1077 : (Int × octet_Reader)) (s : (octet_Reader × (List api_Got))) : Option (api_Reply × octet_Reader) :=
  match s with | (z1233, z1236) => ((octet_Reader_Count z1233 (32:Int)).bind fun t1244 => (loopO (command_ReadReply_l2 t1244 t1067 t1072 t1077 z1236) ([], t1244.2, (0:Int))))
noncomputable def command_ReadReply (a0 : octet_Reader) : Option (api_Reply × octet_Reader) :=
  ((octet_Reader_Num a0 (1:Int)).bind fun t1067 => ((octet_Reader_Num t1067.2 (8:Int)).bind fun t1072 => ((octet_Reader_Num t1072.2 (8:Int)).bind fun t1077 => ((((octet_Reader_Count t1077.2 (32:Int)).bind fun t1093 => (loopO (command_ReadReply_l1 t1093) ([], t1093.2, (0:Int))))).bind (command_ReadReply_j0 t1067 t1072 t1077)))))

noncomputable def octet_Reader_End (a0 : octet_Reader) : Option (Bool) :=
  ((octet_Reader_Bad a0).bind fun t393 => (bif (!t393) then (some (((a0.p).length : Int) == (0:Int))) else (some false)))

noncomputable def slices_Equal_byte_byte_l0 (a0 : (List Int)) (a1 : (List Int)) (z471 : (Int)) : Option ((Int) ⊕ (Bool)) :=
  (bif (decide (z471 < ((a0).length : Int))) then ((geto a0 z471).bind fun x481 => ((geto a1 z471).bind fun x486 => (bif (x481 != x486) then (inrO (some false)) else (some (Sum.inl (IntKind.i64.wrap (z471 + (1:Int)))))))) else (inrO (some true)))
noncomputable def slices_Equal_byte_byte (a0 : (List Int)) (a1 : (List Int)) : Option (Bool) :=
  (bif (((a0).length : Int) != ((a1).length : Int)) then (some false) else (loopO (slices_Equal_byte_byte_l0 a0 a1) (0:Int)))

noncomputable def session_Decode_j2 (z591 : session_Table) (t603 : (Int × octet_Reader)) (t608 : (Int × octet_Reader)) (t613 : (api_Reply × octet_Reader)) (z592 : Int) (_s : Unit) : Option ((octet_Reader × session_Table × Int) ⊕ ((octet_Reader × session_Table) ⊕ (Option session_Table × Int))) :=
  (gd (room z591.l ([({ session := t603.1, seq := t608.1, r := t613.1 } : session_row)])) (some (Sum.inl (t613.2, ({ l := (z591.l ++ ([({ session := t603.1, seq := t608.1, r := t613.1 } : session_row)])) } : session_Table), (IntKind.i64.wrap (z592 + (1:Int)))))))
noncomputable def session_Decode_l1 (t422 : (Int × octet_Reader)) (s : (octet_Reader × session_Table × Int)) : Option ((octet_Reader × session_Table × Int) ⊕ ((octet_Reader × session_Table) ⊕ (Option session_Table × Int))) :=
  match s with | (z590, z591, z592) => (bif (decide (z592 < t422.1)) then ((octet_Reader_Num z590 (8:Int)).bind fun t603 => ((octet_Reader_Num t603.2 (8:Int)).bind fun t608 => ((command_ReadReply t608.2).bind fun t613 => (joinO (bif (t608.1 == (0:Int)) then (inrO (inrO (inrO (some (none, (5:Int)))))) else (bif (decide (z592 > (0:Int))) then ((geto z591.l (IntKind.i64.wrap (z592 - (1:Int)))).bind fun x641 => (bif (decide (x641.session ≥ t603.1)) then (inrO (inrO (inrO (some (none, (5:Int)))))) else (some (Sum.inl ())))) else (some (Sum.inl ())))) (session_Decode_j2 z591 t603 t608 t613 z592))))) else (inrO (some (Sum.inl (z590, z591)))))
noncomputable def session_Decode_j0 (a0 : (List Int)) (s : (octet_Reader × session_Table)) : Option (Option session_Table × Int) :=
  match s with | (z682, z683) => ((octet_Reader_End z682).bind fun t691 => (bif (!t691) then (some (none, (5:Int))) else ((session_Table_Encode (some z683)).bind fun t698 => ((slices_Equal_byte_byte t698 a0).bind fun t707 => (bif (!t707) then (some (none, (5:Int))) else (some ((some z683), (0:Int))))))))
noncomputable def session_Decode (a0 : (List Int)) : Option (Option session_Table × Int) :=
  ((octet_Read a0).bind fun t403 => (session_New.bind fun t410 => (joinO ((octet_Reader_Left t403).bind fun t417 => ((octet_Reader_Count t403 t417).bind fun t422 => (loopO (session_Decode_l1 t422) (t422.2, t410, (0:Int))))) (session_Decode_j0 a0))))

noncomputable def session_Table_Last (a0 : (Option session_Table)) (a1 : Int) : Option (Int) :=
  (match a0 with | none => ((session_Table_find none a1).bind fun t553 => (bif (!t553.2) then (some (0:Int)) else none)) | some o0 => ((session_Table_find (some o0) a1).bind fun t559 => (bif (!t559.2) then (some (0:Int)) else ((geto o0.l t559.1).bind fun x568 => (some x568.seq)))))

noncomputable def ref11_SameGots_l0 (a0 : (List api_Got)) (a1 : (List api_Got)) (z723 : (Int)) : Option ((Int) ⊕ (Bool)) :=
  (bif (decide (z723 < ((a0).length : Int))) then ((geto a0 z723).bind fun x733 => ((geto a1 z723).bind fun x744 => (bif (!(x733.Has == x744.Has)) then (inrO (some false)) else (bif (!(sEq (toStr x733.Val) (toStr x744.Val))) then (inrO (some false)) else (some (Sum.inl (IntKind.i64.wrap (z723 + (1:Int))))))))) else (inrO (some true)))
noncomputable def ref11_SameGots (a0 : (List api_Got)) (a1 : (List api_Got)) : Option (Bool) :=
  (bif (((a0).length : Int) != ((a1).length : Int)) then (some false) else (loopO (ref11_SameGots_l0 a0 a1) (0:Int)))

noncomputable def math_Signbit (a0 : Nat) : Option (Bool) :=
  (some (decide ((IntKind.i64.wrap (Int.ofNat a0)) < (0:Int))))

noncomputable def ref01_Ahead_j0 (a0 : Nat) (a1 : Nat) (_s : Unit) : Option (Bool) :=
  (some (fLt a0 a1))
noncomputable def ref01_Ahead (a0 : Nat) (a1 : Nat) : Option (Bool) :=
  (bif (fNe a0 a0) then (some false) else (bif (fNe a1 a1) then (some true) else (joinO (bif (fEq a0 (0:Nat)) then (bif (fEq a1 (0:Nat)) then ((math_Signbit a0).bind fun t617 => (bif t617 then ((math_Signbit a1).bind fun t623 => (inrO (some (!t623)))) else (inrO (some false)))) else (some (Sum.inl ()))) else (some (Sum.inl ()))) (ref01_Ahead_j0 a0 a1))))

noncomputable def ref01_Same (a0 : Nat) (a1 : Nat) : Option (Bool) :=
  ((ref01_Ahead a0 a1).bind fun t604 => (bif (!t604) then ((ref01_Ahead a1 a0).bind fun t610 => (some (!t610))) else (some false)))

noncomputable def ref11_SamePairs_l0 (a0 : (List api_Pair)) (a1 : (List api_Pair)) (z816 : (Int)) : Option ((Int) ⊕ (Bool)) :=
  (bif (decide (z816 < ((a0).length : Int))) then ((geto a0 z816).bind fun x826 => ((geto a1 z816).bind fun x837 => ((ref01_Same x826.At x837.At).bind fun t848 => (bif (!t848) then (inrO (some false)) else (bif (!(sEq (toStr x826.Val) (toStr x837.Val))) then (inrO (some false)) else (some (Sum.inl (IntKind.i64.wrap (z816 + (1:Int)))))))))) else (inrO (some true)))
noncomputable def ref11_SamePairs (a0 : (List api_Pair)) (a1 : (List api_Pair)) : Option (Bool) :=
  (bif (((a0).length : Int) != ((a1).length : Int)) then (some false) else (loopO (ref11_SamePairs_l0 a0 a1) (0:Int)))

noncomputable def ref11_SameReply_l0 (a0 : api_Reply) (a1 : api_Reply) (z768 : (Int)) : Option ((Int) ⊕ (Bool)) :=
  (bif (decide (z768 < ((a0.Scans).length : Int))) then ((geto a0.Scans z768).bind fun x778 => ((geto a1.Scans z768).bind fun x789 => ((ref11_SamePairs x778 x789).bind fun t800 => (bif (!t800) then (inrO (some false)) else (some (Sum.inl (IntKind.i64.wrap (z768 + (1:Int))))))))) else (inrO (some true)))
noncomputable def ref11_SameReply (a0 : api_Reply) (a1 : api_Reply) : Option (Bool) :=
  (bif (a0.E != a1.E) then (some false) else (bif (a0.Epoch != a1.Epoch) then (some false) else (bif (a0.Index != a1.Index) then (some false) else ((ref11_SameGots a0.Gots a1.Gots).bind fun t702 => (bif (!t702) then (some false) else (bif (((a0.Scans).length : Int) != ((a1.Scans).length : Int)) then (some false) else (loopO (ref11_SameReply_l0 a0 a1) (0:Int))))))))

noncomputable def law14_told_j3 (t1506 : (api_Reply × Int)) (t1380 : (ref11_Answer)) (z1495 : Int) (z1535 : (Int)) : Option ((Int) ⊕ ((Int) ⊕ (Bool))) :=
  (bif (t1506.2 != z1535) then (inrO (inrO (some false))) else (bif (t1506.2 == (0:Int)) then ((ref11_SameReply t1506.1 t1380.R).bind fun t1543 => (bif (!t1543) then (inrO (inrO (some false))) else (some (Sum.inl (IntKind.u64.wrap (z1495 + (1:Int))))))) else (some (Sum.inl (IntKind.u64.wrap (z1495 + (1:Int)))))))
noncomputable def law14_told_j2 (t1380 : (ref11_Answer)) (z1495 : Int) (t1506 : (api_Reply × Int)) (z1527 : (Int)) : Option ((Int) ⊕ ((Int) ⊕ (Bool))) :=
  (((bif (t1380.Seq == z1495) then (bif (decide (z1495 > (0:Int))) then (some (0:Int)) else (some z1527)) else (some z1527))).bind (law14_told_j3 t1506 t1380 z1495))
noncomputable def law14_told_l1 (a0 : (Option session_Table)) (z1369 : Int) (t1380 : (ref11_Answer)) (z1495 : (Int)) : Option ((Int) ⊕ ((Int) ⊕ (Bool))) :=
  (bif (decide (z1495 < (8:Int))) then ((session_Table_Get a0 z1369 z1495).bind fun t1506 => (((bif (decide (t1380.Seq > z1495)) then (some (10:Int)) else (some (2:Int)))).bind (law14_told_j2 t1380 z1495 t1506))) else (inrO (some (Sum.inl (IntKind.u64.wrap (z1369 + (1:Int)))))))
noncomputable def law14_told_l0 (a1 : (List ref11_Answer)) (a0 : (Option session_Table)) (z1369 : (Int)) : Option ((Int) ⊕ (Bool)) :=
  (bif (decide (z1369 < (6:Int))) then ((ref11_Last a1 z1369).bind fun t1380 => ((session_Table_Last a0 z1369).bind fun t1400 => (bif (t1400 != t1380.Seq) then (inrO (some false)) else (loopO (law14_told_l1 a0 z1369 t1380) (0:Int))))) else (inrO (some true)))
noncomputable def law14_told (a0 : (Option session_Table)) (a1 : (List ref11_Answer)) : Option (Bool) :=
  ((session_Table_Len a0).bind fun t1022 => (bif (t1022 != ((a1).length : Int)) then (some false) else (loopO (law14_told_l0 a1 a0) (0:Int))))

noncomputable def law14_SessionBytes_l1 (s : (ref12_Tape × (Option session_Table) × (Option session_Table) × (List ref11_Answer) × Int)) : Option ((ref12_Tape × (Option session_Table) × (Option session_Table) × (List ref11_Answer) × Int) ⊕ (((Option session_Table) × (List ref11_Answer)) ⊕ (Bool))) :=
  match s with | (z871, z872, z873, z876, z880) => (bif (decide (z880 < (16:Int))) then ((ref12_Tape_Next z871 (6:Int)).bind fun t891 => ((ref12_Tape_Next t891.2 (7:Int)).bind fun t896 => ((ref13_OfReply t896.2).bind fun t901 => ((ref11_Tell z876 (IntKind.u64.wrap t891.1) (IntKind.u64.wrap t896.1) t901.1).bind fun t925 => ((session_Table_Put z873 (IntKind.u64.wrap t891.1) (IntKind.u64.wrap t896.1) t901.1).bind fun t933 => (bif (z880 == (8:Int)) then ((session_Table_Encode t933.2).bind fun t939 => ((session_Decode t939).bind fun t949 => (bif (t949.2 != (0:Int)) then (inrO (inrO (some false))) else ((session_Table_Encode t949.1).bind fun t957 => ((session_Table_Encode t933.2).bind fun t964 => (bif (!(sEq (toStr t957) (toStr t964))) then (inrO (inrO (some false))) else (some (Sum.inl (t901.2, z872, t949.1, t925.1, (IntKind.i64.wrap (z880 + (1:Int)))))))))))) else (some (Sum.inl (t901.2, z872, t933.2, t925.1, (IntKind.i64.wrap (z880 + (1:Int)))))))))))) else (inrO (some (Sum.inl (z873, z876)))))
noncomputable def law14_SessionBytes_j0 (s : ((Option session_Table) × (List ref11_Answer))) : Option (Bool) :=
  match s with | (z974, z977) => ((law14_told z974 z977).bind fun t986 => (some t986))
noncomputable def law14_SessionBytes (a0 : (List Int)) : Option (Bool) :=
  (law14_awake.bind fun t497 => (bif (!t497) then (law14_awake.bind fun t503 => (some t503)) else (bif (decide (((a0).length : Int) > (400:Int))) then (law14_awake.bind fun t509 => (some t509)) else (session_New.bind fun t520 => (joinO (loopO (law14_SessionBytes_l1) (({ L := a0, I := (0:Int) } : ref12_Tape), (some t520), (some t520), [], (0:Int))) (law14_SessionBytes_j0))))))

noncomputable def law14_SessionPlays_l0 (s : (ref12_Tape × session_Table × (List ref11_Answer) × Int)) : Option ((ref12_Tape × session_Table × (List ref11_Answer) × Int) ⊕ (Bool)) :=
  match s with | (z498, z499, z500, z504) => (bif (decide (z504 < (25:Int))) then ((ref12_Tape_Next z498 (6:Int)).bind fun t515 => ((ref12_Tape_Next t515.2 (7:Int)).bind fun t520 => ((ref13_OfReply t520.2).bind fun t525 => ((ref11_Tell z500 (IntKind.u64.wrap t515.1) (IntKind.u64.wrap t520.1) t525.1).bind fun t549 => ((session_Table_Put (some z499) (IntKind.u64.wrap t515.1) (IntKind.u64.wrap t520.1) t525.1).bind fun t557 => (match t557.2 with | none => none | some y562 => (bif (t557.1 != t549.2) then (inrO (some false)) else ((law14_told (some y562) t549.1).bind fun t565 => (bif (!t565) then (inrO (some false)) else (some (Sum.inl (t525.2, y562, t549.1, (IntKind.i64.wrap (z504 + (1:Int))))))))))))))) else (inrO (some true)))
noncomputable def law14_SessionPlays (a0 : (List Int)) : Option (Bool) :=
  (law14_awake.bind fun t287 => (bif (!t287) then (law14_awake.bind fun t293 => (some t293)) else (bif (decide (((a0).length : Int) > (500:Int))) then (law14_awake.bind fun t299 => (some t299)) else (session_New.bind fun t310 => (loopO (law14_SessionPlays_l0) (({ L := a0, I := (0:Int) } : ref12_Tape), t310, [], (0:Int)))))))

noncomputable def law14_SessionRaw_j4 (t196 : (Int × (Option session_Table))) (z213 : Int) (y201 : session_Table) (a0 : Int) (z220 : Int) (t226 : (api_Reply × Int)) (s : (Int × Int × Int × (List api_Got) × (List (List api_Pair)))) : Option (Bool) :=
  match s with | (z256, z257, z258, z261, z265) => (bif (t196.1 == z213) then ((session_Table_Last (some y201) a0).bind fun t273 => (bif (t273 == z220) then (bif (t226.2 == (0:Int)) then ((ref11_SameReply t226.1 ({ E := z256, Epoch := z257, Index := z258, Gots := z261, Scans := z265 } : api_Reply)).bind fun t280 => (some t280)) else (some false)) else (some false))) else (some false))
noncomputable def law14_SessionRaw_j3 (y201 : session_Table) (a0 : Int) (t196 : (Int × (Option session_Table))) (z213 : Int) (a3 : api_Reply) (a4 : api_Reply) (z220 : (Int)) : Option (Bool) :=
  ((session_Table_Get (some y201) a0 z220).bind fun t226 => (bif (z220 == (0:Int)) then (bif (t196.1 == z213) then ((session_Table_Len (some y201)).bind fun t248 => (some (t248 == (0:Int)))) else (some false)) else (((bif (z213 != (0:Int)) then (some (a3.E, a3.Epoch, a3.Index, a3.Gots, a3.Scans)) else (some (a4.E, a4.Epoch, a4.Index, a4.Gots, a4.Scans)))).bind (law14_SessionRaw_j4 t196 z213 y201 a0 z220 t226))))
noncomputable def law14_SessionRaw_j2 (z176 : Int) (z175 : Int) (y201 : session_Table) (a0 : Int) (t196 : (Int × (Option session_Table))) (a3 : api_Reply) (a4 : api_Reply) (z213 : (Int)) : Option (Bool) :=
  (((bif (z213 == (0:Int)) then (some z176) else (some z175))).bind (law14_SessionRaw_j3 y201 a0 t196 z213 a3 a4))
noncomputable def law14_SessionRaw_j1 (z176 : Int) (z175 : Int) (y201 : session_Table) (a0 : Int) (t196 : (Int × (Option session_Table))) (a3 : api_Reply) (a4 : api_Reply) (_s : Unit) : Option (Bool) :=
  (((bif (z176 == (0:Int)) then (some (1:Int)) else (bif (decide (z176 ≤ z175)) then (some (10:Int)) else (some (0:Int))))).bind (law14_SessionRaw_j2 z176 z175 y201 a0 t196 a3 a4))
noncomputable def law14_SessionRaw_j0 (a0 : Int) (a3 : api_Reply) (a4 : api_Reply) (s : (Int × Int)) : Option (Bool) :=
  match s with | (z175, z176) => (session_New.bind fun t182 => ((session_Table_Put (some t182) a0 z175 a3).bind fun t189 => (match t189.2 with | none => none | some y194 => ((session_Table_Put (some y194) a0 z176 a4).bind fun t196 => (match t196.2 with | none => none | some y201 => (joinO (bif (!((t189.1 == (0:Int)) == (z175 != (0:Int)))) then (inrO (some false)) else (bif (z175 == (0:Int)) then (bif (t189.1 != (1:Int)) then (inrO (some false)) else (some (Sum.inl ()))) else (some (Sum.inl ())))) (law14_SessionRaw_j1 z176 z175 y201 a0 t196 a3 a4)))))))
noncomputable def law14_SessionRaw (a0 : Int) (a1 : Int) (a2 : Int) (a3 : api_Reply) (a4 : api_Reply) (a5 : Bool) : Option (Bool) :=
  (law14_awake.bind fun t157 => (bif (!t157) then (law14_awake.bind fun t163 => (some t163)) else (bif (decide ((IntKind.i64.wrap ((IntKind.i64.wrap ((IntKind.i64.wrap (((a3.Gots).length : Int) + ((a3.Scans).length : Int))) + ((a4.Gots).length : Int))) + ((a4.Scans).length : Int))) > (100:Int))) then (law14_awake.bind fun t169 => (some t169)) else (((bif a5 then (some ((Int.tmod a1 (4:Int)), (Int.tmod a2 (4:Int)))) else (some (a1, a2)))).bind (law14_SessionRaw_j0 a0 a3 a4)))))

noncomputable def law14_SessionJunk_l2 (s : (ref12_Tape × session_Table × Int)) : Option ((ref12_Tape × session_Table × Int) ⊕ (session_Table)) :=
  match s with | (z360, z361, z362) => (bif (decide (z362 < (5:Int))) then ((ref12_Tape_Next z360 (6:Int)).bind fun t373 => ((ref12_Tape_Next t373.2 (5:Int)).bind fun t378 => ((ref13_OfReply t378.2).bind fun t383 => ((session_Table_Put (some z361) (IntKind.u64.wrap t373.1) (IntKind.u64.wrap (IntKind.i64.wrap ((1:Int) + t378.1))) t383.1).bind fun t398 => (match t398.2 with | none => none | some y403 => (some (Sum.inl (t383.2, y403, (IntKind.i64.wrap (z362 + (1:Int))))))))))) else (inrO (some z361)))
noncomputable def law14_SessionJunk_j1 (a2 : Int) (a3 : Int) (z405 : (session_Table)) : Option (Bool) :=
  ((session_Table_Encode (some z405)).bind fun t413 => (gd (!(((t413).length : Int) == (0:Int))) ((geto t413 (Int.tmod (IntKind.i64.wrap a2) ((t413).length : Int))).bind fun x421 => ((session_Decode (t413.set (Int.tmod (IntKind.i64.wrap a2) ((t413).length : Int)).toNat (bXor .u8 x421 a3))).bind fun t433 => (bif (t433.2 == (0:Int)) then ((session_Table_Encode t433.1).bind fun t441 => (bif (sEq (toStr t441) (toStr (t413.set (Int.tmod (IntKind.i64.wrap a2) ((t413).length : Int)).toNat (bXor .u8 x421 a3)))) then (some true) else (bif (t433.2 == (5:Int)) then (some (t433.1.isNone)) else (some false)))) else (bif (t433.2 == (5:Int)) then (some (t433.1.isNone)) else (some false)))))))
noncomputable def law14_SessionJunk_j0 (a1 : (List Int)) (a2 : Int) (a3 : Int) (_s : Unit) : Option (Bool) :=
  (session_New.bind fun t284 => (((loopO (law14_SessionJunk_l2) (({ L := a1, I := (0:Int) } : ref12_Tape), t284, (0:Int)))).bind (law14_SessionJunk_j1 a2 a3)))
noncomputable def law14_SessionJunk (a0 : (List Int)) (a1 : (List Int)) (a2 : Int) (a3 : Int) : Option (Bool) :=
  (law14_awake.bind fun t228 => (bif (!t228) then (law14_awake.bind fun t234 => (some t234)) else (bif (decide (((a0).length : Int) > (1000:Int))) then (law14_awake.bind fun t240 => (some t240)) else (bif (decide (((a1).length : Int) > (200:Int))) then (law14_awake.bind fun t246 => (some t246)) else ((session_Decode a0).bind fun t251 => (joinO (bif (t251.2 == (0:Int)) then ((session_Table_Encode t251.1).bind fun t259 => (bif (!(sEq (toStr t259) (toStr a0))) then (inrO (some false)) else (bif (t251.2 != (0:Int)) then (bif (t251.2 != (5:Int)) then (inrO (some false)) else (bif (!(t251.1.isNone)) then (inrO (some false)) else (some (Sum.inl ())))) else (some (Sum.inl ()))))) else (bif (t251.2 != (0:Int)) then (bif (t251.2 != (5:Int)) then (inrO (some false)) else (bif (!(t251.1.isNone)) then (inrO (some false)) else (some (Sum.inl ())))) else (some (Sum.inl ())))) (law14_SessionJunk_j0 a1 a2 a3)))))))
end Go.Proofs.Ytkfifhkjdibadaa
