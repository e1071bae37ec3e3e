/- The models of the Go functions: plain Lean, no memory. -/
import Derived.Test.YtbdnbohbmgmonaaMvccBytesGv
set_option linter.unusedVariables false
set_option linter.unusedSimpArgs false
set_option maxRecDepth 100000
set_option maxHeartbeats 4000000
namespace Go.Proofs.Ytbdnbohbmgmonaa
open Go Go.V
structure law11_Ver where
  At : Int
  X : Nat
  E : Int
  I : Int
  Del : Bool
  V : (List Int)

structure mvcc_Version where
  Epoch : Int
  Index : Int
  Del : Bool
  Val : (List Int)

structure mvcc_row where
  rank : Int
  l : (List mvcc_Version)

structure mvcc_Store where
  rows : (List mvcc_row)

structure ref11_Version where
  At : Nat
  Epoch : Int
  Index : Int
  Del : Bool
  Val : (List Int)

structure api_Got where
  Has : Bool
  Val : (List Int)

structure octet_Writer where
  p : (List Int)

structure octet_Reader where
  p : (List Int)
  bad : Bool

structure api_Pair where
  At : Nat
  Val : (List Int)

def zero_mvcc_Version : mvcc_Version := { Epoch := (0:Int), Index := (0:Int), Del := false, Val := [] }

noncomputable def mvcc_New : Option (mvcc_Store) :=
  (some ({ rows := [] } : mvcc_Store))

noncomputable def law11_at (a0 : law11_Ver) : Option (Nat) :=
  (bif (decide ((Int.tmod a0.At (6:Int)) < (4:Int))) then ((geto ([(0:Nat), (4607182418800017408:Nat), (13830554455654793216:Nat), (4602678819172646912:Nat)]) (Int.tmod a0.At (6:Int))).bind fun x56 => (some x56)) else (some a0.X))

noncomputable def slices_Clone_byte_byte (a0 : (List Int)) : Option ((List Int)) :=
  gd (room ([] : (List Int)) a0) (some a0)

noncomputable def math_IsNaN (a0 : Nat) : Option (Bool) :=
  (some (fNe a0 a0))

noncomputable def number_Rank (a0 : Nat) : Option (Int) :=
  ((math_IsNaN a0).bind fun t107 => (bif t107 then (some (18446744073709551615:Int)) else (bif ((iShr .u64 (Int.ofNat a0) (63:Int)) == (1:Int)) then (some (bXor .u64 ((18446744073709551615):Int) (Int.ofNat a0))) else (some (bOr .u64 (Int.ofNat a0) (9223372036854775808:Int))))))

noncomputable def mvcc_Store_find_l0 (o0 : mvcc_Store) (a1 : Int) (s : (Int × Int)) : Option ((Int × Int) ⊕ (Int)) :=
  match s with | (z238, z239) => (bif (decide (z238 < z239)) then (((geto o0.rows (IntKind.i64.wrap (iShr .u64 (IntKind.u64.wrap (IntKind.i64.wrap (z238 + z239))) (1:Int)))).bind fun x249 => (some (decide (x249.rank ≥ a1)))).bind fun z254 => (bif (!z254) then (some (Sum.inl ((IntKind.i64.wrap ((IntKind.i64.wrap (iShr .u64 (IntKind.u64.wrap (IntKind.i64.wrap (z238 + z239))) (1:Int))) + (1:Int))), z239))) else (some (Sum.inl (z238, (IntKind.i64.wrap (iShr .u64 (IntKind.u64.wrap (IntKind.i64.wrap (z238 + z239))) (1:Int)))))))) else (inrO (some z238)))
noncomputable def mvcc_Store_find (a0 : (Option mvcc_Store)) (a1 : Int) : Option (Int × Bool) :=
  (match a0 with | none => (some ((0:Int), false)) | some o0 => ((loopO (mvcc_Store_find_l0 o0 a1) ((0:Int), ((o0.rows).length : Int))).bind fun z260 => (bif (decide (z260 < ((o0.rows).length : Int))) then ((geto o0.rows z260).bind fun x266 => (some (z260, (x266.rank == a1)))) else (some (z260, false)))))

noncomputable def slices_Insert_mvcc_row_mvcc_row_raw (a0 : (List (List Value))) (a1 : Int) (a2 : (List (List Value))) : Option ((List (List Value))) :=
  gd (insOK a0 a1 a2) (some (ins a0 a1 a2))

noncomputable def slices_Insert_mvcc_row_mvcc_row (a0 : (List mvcc_row)) (a1 : Int) (a2 : (List mvcc_row)) : Option ((List mvcc_row)) :=
  gd (insOK a0 a1 a2) (some (ins a0 a1 a2))

noncomputable def mvcc_ahead (a0 : mvcc_Version) (a1 : Int) (a2 : Int) : Option (Bool) :=
  (bif (decide (a0.Epoch < a1)) then (some true) else (bif (a0.Epoch == a1) then (some (decide (a0.Index < a2))) else (some false)))

noncomputable def slices_Insert_mvcc_Version_mvcc_Version (a0 : (List mvcc_Version)) (a1 : Int) (a2 : (List mvcc_Version)) : Option ((List mvcc_Version)) :=
  gd (insOK a0 a1 a2) (some (ins a0 a1 a2))

noncomputable def mvcc_Store_Put_l2 (x384 : mvcc_row) (a2 : mvcc_Version) (s : (Int × Int)) : Option ((Int × Int) ⊕ (Int)) :=
  match s with | (z452, z453) => (bif (decide (z452 < z453)) then (((geto x384.l (IntKind.i64.wrap (iShr .u64 (IntKind.u64.wrap (IntKind.i64.wrap (z452 + z453))) (1:Int)))).bind fun x465 => ((mvcc_ahead x465 a2.Epoch a2.Index).bind fun t476 => (some (!t476)))).bind fun z481 => (bif (!z481) then (some (Sum.inl ((IntKind.i64.wrap ((IntKind.i64.wrap (iShr .u64 (IntKind.u64.wrap (IntKind.i64.wrap (z452 + z453))) (1:Int))) + (1:Int))), z453))) else (some (Sum.inl (z452, (IntKind.i64.wrap (iShr .u64 (IntKind.u64.wrap (IntKind.i64.wrap (z452 + z453))) (1:Int)))))))) else (inrO (some z452)))
noncomputable def mvcc_Store_Put_j3 (x384 : mvcc_row) (z487 : Int) (a2 : mvcc_Version) (z332 : (List Int)) (z374 : mvcc_Store) (t343 : (Int × Bool)) (_s : Unit) : Option ((Option mvcc_Store)) :=
  ((slices_Insert_mvcc_Version_mvcc_Version x384.l z487 ([({ Epoch := a2.Epoch, Index := a2.Index, Del := a2.Del, Val := z332 } : mvcc_Version)])).bind fun t531 => (some (some ({ rows := (z374.rows.set t343.1.toNat ({ rank := x384.rank, l := t531 } : mvcc_row)) } : mvcc_Store))))
noncomputable def mvcc_Store_Put_j1 (t343 : (Int × Bool)) (a2 : mvcc_Version) (z332 : (List Int)) (z374 : (mvcc_Store)) : Option ((Option mvcc_Store)) :=
  ((geto z374.rows t343.1).bind fun x384 => ((loopO (mvcc_Store_Put_l2 x384 a2) ((0:Int), ((x384.l).length : Int))).bind fun z487 => (joinO (bif (decide (z487 < ((x384.l).length : Int))) then ((geto x384.l z487).bind fun x495 => (bif (x495.Epoch == a2.Epoch) then (bif (x495.Index == a2.Index) then (inrO (some (some ({ rows := (z374.rows.set t343.1.toNat ({ rank := x384.rank, l := (x384.l.set z487.toNat ({ Epoch := a2.Epoch, Index := a2.Index, Del := a2.Del, Val := z332 } : mvcc_Version)) } : mvcc_row)) } : mvcc_Store)))) else (some (Sum.inl ()))) else (some (Sum.inl ())))) else (some (Sum.inl ()))) (mvcc_Store_Put_j3 x384 z487 a2 z332 z374 t343))))
noncomputable def mvcc_Store_Put_j0 (a1 : Nat) (o0 : mvcc_Store) (a2 : mvcc_Version) (z332 : ((List Int))) : Option ((Option mvcc_Store)) :=
  ((number_Rank a1).bind fun t338 => ((mvcc_Store_find (some o0) t338).bind fun t343 => (((bif (!t343.2) then ((number_Rank a1).bind fun t353 => ((slices_Insert_mvcc_row_mvcc_row o0.rows t343.1 ([({ rank := t353, l := [] } : mvcc_row)])).bind fun t365 => (some ({ rows := t365 } : mvcc_Store)))) else (some o0))).bind (mvcc_Store_Put_j1 t343 a2 z332))))
noncomputable def mvcc_Store_Put (a0 : (Option mvcc_Store)) (a1 : Nat) (a2 : mvcc_Version) : Option ((Option mvcc_Store)) :=
  (match a0 with | none => (some none) | some o0 => ((slices_Clone_byte_byte a2.Val).bind fun t317 => (((bif a2.Del then (some ([])) else (some t317))).bind (mvcc_Store_Put_j0 a1 o0 a2))))

noncomputable def math_Signbit (a0 : Nat) : Option (Bool) :=
  (some (decide ((IntKind.i64.wrap (Int.ofNat a0)) < (0:Int))))

noncomputable def ref01_Ahead_j0 (a0 : Nat) (a1 : Nat) (_s : Unit) : Option (Bool) :=
  (some (fLt a0 a1))
noncomputable def ref01_Ahead (a0 : Nat) (a1 : Nat) : Option (Bool) :=
  (bif (fNe a0 a0) then (some false) else (bif (fNe a1 a1) then (some true) else (joinO (bif (fEq a0 (0:Nat)) then (bif (fEq a1 (0:Nat)) then ((math_Signbit a0).bind fun t105 => (bif t105 then ((math_Signbit a1).bind fun t111 => (inrO (some (!t111)))) else (inrO (some false)))) else (some (Sum.inl ()))) else (some (Sum.inl ()))) (ref01_Ahead_j0 a0 a1))))

noncomputable def ref01_Same (a0 : Nat) (a1 : Nat) : Option (Bool) :=
  ((ref01_Ahead a0 a1).bind fun t92 => (bif (!t92) then ((ref01_Ahead a1 a0).bind fun t98 => (some (!t98))) else (some false)))

noncomputable def ref11_Put_l1 (a0 : (List ref11_Version)) (a1 : ref11_Version) (s : ((List ref11_Version) × Int)) : Option (((List ref11_Version) × Int) ⊕ ((List ref11_Version))) :=
  match s with | (z596, z599) => (bif (decide (z599 < ((a0).length : Int))) then ((geto a0 z599).bind fun x609 => ((ref01_Same x609.At a1.At).bind fun t620 => (bif (!t620) then (gd (room z596 ([x609])) (some (Sum.inl ((z596 ++ ([x609])), (IntKind.i64.wrap (z599 + (1:Int))))))) else (bif (x609.Epoch != a1.Epoch) then (gd (room z596 ([x609])) (some (Sum.inl ((z596 ++ ([x609])), (IntKind.i64.wrap (z599 + (1:Int))))))) else (bif (x609.Index != a1.Index) then (gd (room z596 ([x609])) (some (Sum.inl ((z596 ++ ([x609])), (IntKind.i64.wrap (z599 + (1:Int))))))) else (some (Sum.inl (z596, (IntKind.i64.wrap (z599 + (1:Int))))))))))) else (inrO (some z596)))
noncomputable def ref11_Put_j2 (z675 : (List ref11_Version)) (a1 : ref11_Version) (z687 : ((List Int))) : Option ((List ref11_Version)) :=
  (gd (room z675 ([({ At := a1.At, Epoch := a1.Epoch, Index := a1.Index, Del := a1.Del, Val := z687 } : ref11_Version)])) (some (z675 ++ ([({ At := a1.At, Epoch := a1.Epoch, Index := a1.Index, Del := a1.Del, Val := z687 } : ref11_Version)]))))
noncomputable def ref11_Put_j0 (a1 : ref11_Version) (z675 : ((List ref11_Version))) : Option ((List ref11_Version)) :=
  (((bif a1.Del then (some ([])) else (some a1.Val))).bind (ref11_Put_j2 z675 a1))
noncomputable def ref11_Put (a0 : (List ref11_Version)) (a1 : ref11_Version) : Option ((List ref11_Version)) :=
  (((loopO (ref11_Put_l1 a0 a1) ([], (0:Int)))).bind (ref11_Put_j0 a1))

noncomputable def law11_fill_j2 (z525 : mvcc_Store) (x540 : law11_Ver) (z526 : (List ref11_Version)) (z529 : Int) (z582 : (Nat)) : Option ((mvcc_Store × (List ref11_Version) × Int) ⊕ ((mvcc_Store × (List ref11_Version)) ⊕ (mvcc_Store × (List ref11_Version) × Bool))) :=
  ((mvcc_Store_Put (some z525) z582 ({ Epoch := (IntKind.u64.wrap (Int.tmod x540.E (8:Int))), Index := (IntKind.u64.wrap (Int.tmod x540.I (5:Int))), Del := x540.Del, Val := x540.V } : mvcc_Version)).bind fun t589 => (match t589 with | none => none | some y594 => ((ref11_Put z526 ({ At := z582, Epoch := (IntKind.u64.wrap (Int.tmod x540.E (8:Int))), Index := (IntKind.u64.wrap (Int.tmod x540.I (5:Int))), Del := x540.Del, Val := x540.V } : ref11_Version)).bind fun t599 => (some (Sum.inl (y594, t599, (IntKind.i64.wrap (z529 + (1:Int)))))))))
noncomputable def law11_fill_l1 (a0 : (List law11_Ver)) (s : (mvcc_Store × (List ref11_Version) × Int)) : Option ((mvcc_Store × (List ref11_Version) × Int) ⊕ ((mvcc_Store × (List ref11_Version)) ⊕ (mvcc_Store × (List ref11_Version) × Bool))) :=
  match s with | (z525, z526, z529) => (bif (decide (z529 < ((a0).length : Int))) then ((geto a0 z529).bind fun x540 => (bif (decide (((x540.V).length : Int) > (100:Int))) then (inrO (inrO (some (z525, z526, false)))) else ((((law11_at x540).bind fun t552 => (some t552))).bind (law11_fill_j2 z525 x540 z526 z529)))) else (inrO (some (Sum.inl (z525, z526)))))
noncomputable def law11_fill_j0 (s : (mvcc_Store × (List ref11_Version))) : Option (mvcc_Store × (List ref11_Version) × Bool) :=
  match s with | (z606, z609) => (some (z606, z609, true))
noncomputable def law11_fill (a0 : (List law11_Ver)) : Option (mvcc_Store × (List ref11_Version) × Bool) :=
  (mvcc_New.bind fun t312 => (bif (decide (((a0).length : Int) > (60:Int))) then (some (t312, [], false)) else (joinO (loopO (law11_fill_l1 a0) (t312, [], (0:Int))) (law11_fill_j0))))

noncomputable def mvcc_read_l0 (a0 : (List mvcc_Version)) (a1 : Int) (s : (Int × Int)) : Option ((Int × Int) ⊕ (Int)) :=
  match s with | (z274, z275) => (bif (decide (z274 < z275)) then (((geto a0 (IntKind.i64.wrap (iShr .u64 (IntKind.u64.wrap (IntKind.i64.wrap (z274 + z275))) (1:Int)))).bind fun x285 => (some (decide (x285.Epoch > a1)))).bind fun z296 => (bif (!z296) then (some (Sum.inl ((IntKind.i64.wrap ((IntKind.i64.wrap (iShr .u64 (IntKind.u64.wrap (IntKind.i64.wrap (z274 + z275))) (1:Int))) + (1:Int))), z275))) else (some (Sum.inl (z274, (IntKind.i64.wrap (iShr .u64 (IntKind.u64.wrap (IntKind.i64.wrap (z274 + z275))) (1:Int)))))))) else (inrO (some z274)))
noncomputable def mvcc_read (a0 : (List mvcc_Version)) (a1 : Int) : Option (api_Got) :=
  ((loopO (mvcc_read_l0 a0 a1) ((0:Int), ((a0).length : Int))).bind fun z302 => (bif (z302 == (0:Int)) then (some ({ Has := false, Val := [] } : api_Got)) else ((geto a0 (IntKind.i64.wrap (z302 - (1:Int)))).bind fun x311 => (bif x311.Del then (some ({ Has := false, Val := [] } : api_Got)) else ((slices_Clone_byte_byte x311.Val).bind fun t326 => (some ({ Has := true, Val := t326 } : api_Got)))))))

noncomputable def mvcc_Store_Get (a0 : (Option mvcc_Store)) (a1 : Nat) (a2 : Int) : Option (api_Got) :=
  (match a0 with | none => ((number_Rank a1).bind fun t116 => ((mvcc_Store_find none t116).bind fun t122 => (bif (!t122.2) then (some ({ Has := false, Val := [] } : api_Got)) else none))) | some o0 => ((number_Rank a1).bind fun t137 => ((mvcc_Store_find (some o0) t137).bind fun t142 => (bif (!t142.2) then (some ({ Has := false, Val := [] } : api_Got)) else ((geto o0.rows t142.1).bind fun x154 => ((mvcc_read x154.l a2).bind fun t163 => (some t163)))))))

noncomputable def mvcc_Store_Size_l0 (o0 : mvcc_Store) (s : (Int × Int)) : Option ((Int × Int) ⊕ (Int)) :=
  match s with | (z164, z165) => (bif (decide (z164 < ((o0.rows).length : Int))) then ((geto o0.rows z164).bind fun x175 => (some (Sum.inl ((IntKind.i64.wrap (z164 + (1:Int))), (IntKind.i64.wrap (z165 + ((x175.l).length : Int))))))) else (inrO (some z165)))
noncomputable def mvcc_Store_Size (a0 : (Option mvcc_Store)) : Option (Int) :=
  (match a0 with | none => (some (0:Int)) | some o0 => (loopO (mvcc_Store_Size_l0 o0) ((0:Int), (0:Int))))

noncomputable def law11_awake : Option (Bool) :=
  (mvcc_New.bind fun t67 => ((mvcc_Store_Put (some t67) (4607182418800017408:Nat) ({ Epoch := (2:Int), Index := (0:Int), Del := false, Val := [(97:Int)] } : mvcc_Version)).bind fun t85 => (match t85 with | none => none | some y90 => ((mvcc_Store_Put (some y90) (4607182418800017408:Nat) ({ Epoch := (3:Int), Index := (0:Int), Del := true, Val := [] } : mvcc_Version)).bind fun t94 => (match t94 with | none => none | some y99 => ((mvcc_Store_Get (some y99) (4607182418800017408:Nat) (2:Int)).bind fun t101 => (bif (sEq (toStr t101.Val) (ByteArray.mk #[97])) then ((mvcc_Store_Get (some y99) (4607182418800017408:Nat) (3:Int)).bind fun t109 => (bif (!t109.Has) then ((mvcc_Store_Size (some y99)).bind fun t117 => (some (t117 == (2:Int)))) else (some false))) else (some false))))))))

noncomputable def mvcc_Store_Len (a0 : (Option mvcc_Store)) : Option (Int) :=
  (match a0 with | none => (some (0:Int)) | some o0 => (some ((o0.rows).length : Int)))

noncomputable def octet_Writer_lay (a0 : octet_Writer) (a1 : (List Int)) : Option (octet_Writer) :=
  (gd (room a0.p a1) (some ({ p := (a0.p ++ a1) } : octet_Writer)))

noncomputable def octet_Writer_Num_l0 (a2 : Int) (a1 : Int) (s : (octet_Writer × Int)) : Option ((octet_Writer × Int) ⊕ (octet_Writer)) :=
  match s with | (z136, z137) => (bif (decide (z137 < a2)) then (gd (decide ((0:Int) ≤ (IntKind.i64.wrap ((8:Int) * z137)))) ((octet_Writer_lay z136 ([(IntKind.u8.wrap (iShr .u64 a1 (IntKind.i64.wrap ((8:Int) * z137))))])).bind fun t155 => (some (Sum.inl (t155, (IntKind.i64.wrap (z137 + (1:Int)))))))) else (inrO (some z136)))
noncomputable def octet_Writer_Num (a0 : octet_Writer) (a1 : Int) (a2 : Int) : Option (octet_Writer) :=
  (loopO (octet_Writer_Num_l0 a2 a1) (a0, (0:Int)))

noncomputable def octet_Writer_Done (a0 : octet_Writer) : Option ((List Int)) :=
  (some a0.p)

noncomputable def octet_Writer_Flag (a0 : octet_Writer) (a1 : Bool) : Option (octet_Writer) :=
  (bif a1 then ((octet_Writer_Num a0 (1:Int) (1:Int)).bind fun t143 => (some t143)) else ((octet_Writer_Num a0 (0:Int) (1:Int)).bind fun t148 => (some t148)))

noncomputable def octet_Writer_Bytes (a0 : octet_Writer) (a1 : (List Int)) : Option (octet_Writer) :=
  ((octet_Writer_Num a0 (IntKind.u64.wrap ((a1).length : Int)) (4:Int)).bind fun t143 => ((octet_Writer_lay t143 a1).bind fun t148 => (some t148)))

noncomputable def mvcc_Store_Encode_l1 (x953 : mvcc_row) (z943 : Int) (s : (octet_Writer × Int)) : Option ((octet_Writer × Int) ⊕ ((octet_Writer × Int) ⊕ ((List Int)))) :=
  match s with | (z1060, z1061) => (bif (decide (z1061 < ((x953.l).length : Int))) then ((geto x953.l z1061).bind fun x1071 => ((octet_Writer_Num z1060 x1071.Epoch (8:Int)).bind fun t1090 => ((octet_Writer_Num t1090 x1071.Index (8:Int)).bind fun t1095 => ((octet_Writer_Flag t1095 x1071.Del).bind fun t1100 => ((octet_Writer_Bytes t1100 x1071.Val).bind fun t1105 => (some (Sum.inl (t1105, (IntKind.i64.wrap (z1061 + (1:Int))))))))))) else (inrO (some (Sum.inl (z1060, (IntKind.i64.wrap (z943 + (1:Int))))))))
noncomputable def mvcc_Store_Encode_l0 (o0 : mvcc_Store) (s : (octet_Writer × Int)) : Option ((octet_Writer × Int) ⊕ ((List Int))) :=
  match s with | (z942, z943) => (bif (decide (z943 < ((o0.rows).length : Int))) then ((geto o0.rows z943).bind fun x953 => ((octet_Writer_Num z942 x953.rank (8:Int)).bind fun t968 => ((octet_Writer_Num t968 (IntKind.u64.wrap ((x953.l).length : Int)) (4:Int)).bind fun t973 => (loopO (mvcc_Store_Encode_l1 x953 z943) (t973, (0:Int)))))) else (inrO ((octet_Writer_Done z942).bind fun t1110 => (some t1110))))
noncomputable def mvcc_Store_Encode (a0 : (Option mvcc_Store)) : Option ((List Int)) :=
  (match a0 with | none => ((mvcc_Store_Len none).bind fun t586 => ((octet_Writer_Num ({ p := [] } : octet_Writer) (IntKind.u64.wrap t586) (4:Int)).bind fun t591 => ((octet_Writer_Done t591).bind fun t596 => (some t596)))) | some o0 => ((mvcc_Store_Len (some o0)).bind fun t611 => ((octet_Writer_Num ({ p := [] } : octet_Writer) (IntKind.u64.wrap t611) (4:Int)).bind fun t616 => (loopO (mvcc_Store_Encode_l0 o0) (t616, (0:Int))))))

noncomputable def octet_Read (a0 : (List Int)) : Option (octet_Reader) :=
  (some ({ p := a0, bad := false } : octet_Reader))

noncomputable def octet_Reader_Bad (a0 : octet_Reader) : Option (Bool) :=
  (some a0.bad)

noncomputable def octet_Reader_Left (a0 : octet_Reader) : Option (Int) :=
  ((octet_Reader_Bad a0).bind fun t69 => (bif t69 then (some (0:Int)) else (some ((a0.p).length : Int))))

noncomputable def octet_Reader_spoil (a0 : octet_Reader) : Option (octet_Reader) :=
  (some ({ p := a0.p, bad := true } : octet_Reader))

noncomputable def octet_Reader_Num_l1 (a1 : Int) (a0 : octet_Reader) (s : (Int × Int)) : Option ((Int × Int) ⊕ (Int)) :=
  match s with | (z202, z203) => (bif (decide (z202 < (if (8:Int) < a1 then (8:Int) else a1))) then ((geto a0.p z202).bind fun x218 => (gd (decide ((0:Int) ≤ (IntKind.i64.wrap ((8:Int) * z202)))) (some (Sum.inl ((IntKind.i64.wrap (z202 + (1:Int))), (bOr .u64 z203 (iShl .u64 (IntKind.u64.wrap x218) (IntKind.i64.wrap ((8:Int) * z202))))))))) else (inrO (some z203)))
noncomputable def octet_Reader_Num_j0 (a0 : octet_Reader) (a1 : Int) (z224 : (Int)) : Option (Int × octet_Reader) :=
  (gd (fits a0.p a1 (((a0.p).length : Nat) : Int)) (some (z224, ({ p := (subs a0.p a1 (((a0.p).length : Nat) : Int)), bad := a0.bad } : octet_Reader))))
noncomputable def octet_Reader_Num (a0 : octet_Reader) (a1 : Int) : Option (Int × octet_Reader) :=
  (bif a0.bad then ((octet_Reader_spoil a0).bind fun t159 => (some ((0:Int), t159))) else (bif (decide (a1 < (0:Int))) then ((octet_Reader_spoil a0).bind fun t165 => (some ((0:Int), t165))) else (bif (decide (((a0.p).length : Int) < a1)) then ((octet_Reader_spoil a0).bind fun t171 => (some ((0:Int), t171))) else (((loopO (octet_Reader_Num_l1 a1 a0) ((0:Int), (0:Int)))).bind (octet_Reader_Num_j0 a0 a1)))))

noncomputable def octet_Reader_Count (a0 : octet_Reader) (a1 : Int) : Option (Int × octet_Reader) :=
  ((octet_Reader_Num a0 (4:Int)).bind fun t81 => (bif (decide (a1 < (0:Int))) then ((octet_Reader_spoil t81.2).bind fun t87 => (some ((0:Int), t87))) else (bif (decide (t81.1 > (IntKind.u64.wrap a1))) then ((octet_Reader_spoil t81.2).bind fun t93 => (some ((0:Int), t93))) else (some ((IntKind.i64.wrap t81.1), t81.2)))))

noncomputable def octet_Reader_Flag (a0 : octet_Reader) : Option (Bool × octet_Reader) :=
  ((octet_Reader_Num a0 (1:Int)).bind fun t106 => (bif (decide (t106.1 > (1:Int))) then ((octet_Reader_spoil t106.2).bind fun t112 => (some (false, t112))) else (some ((t106.1 == (1:Int)), t106.2))))

noncomputable def octet_Reader_Bytes (a0 : octet_Reader) (a1 : Int) : Option ((List Int) × octet_Reader) :=
  ((octet_Reader_Num a0 (4:Int)).bind fun t154 => (bif t154.2.bad then ((octet_Reader_spoil t154.2).bind fun t164 => (some ([], t164))) else (bif (decide (a1 < (0:Int))) then ((octet_Reader_spoil t154.2).bind fun t171 => (some ([], t171))) else (bif (decide (t154.1 > (IntKind.u64.wrap a1))) then ((octet_Reader_spoil t154.2).bind fun t178 => (some ([], t178))) else (bif (decide (t154.1 > (IntKind.u64.wrap ((t154.2.p).length : Int)))) then ((octet_Reader_spoil t154.2).bind fun t185 => (some ([], t185))) else (gd (fits t154.2.p (0:Int) t154.1) (gd (room ([] : List Int) (subs t154.2.p (0:Int) t154.1)) (gd (fits t154.2.p t154.1 (((t154.2.p).length : Nat) : Int)) (some ((subs t154.2.p (0:Int) t154.1), ({ p := (subs t154.2.p t154.1 (((t154.2.p).length : Nat) : Int)), bad := t154.2.bad } : octet_Reader)))))))))))

noncomputable def octet_Reader_End (a0 : octet_Reader) : Option (Bool) :=
  ((octet_Reader_Bad a0).bind fun t799 => (bif (!t799) then (some (((a0.p).length : Int) == (0:Int))) else (some false)))

noncomputable def number_Back (a0 : Int) : Option (Nat) :=
  (bif ((iShr .u64 a0 (63:Int)) == (1:Int)) then (some (Int.toNat (bAndNot .u64 a0 (9223372036854775808:Int)))) else (some (Int.toNat (bXor .u64 ((18446744073709551615):Int) a0))))

noncomputable def mvcc_Store_right_l2 (x1792 : mvcc_row) (z1782 : Int) (z1932 : (Int)) : Option ((Int) ⊕ ((Int) ⊕ (Bool))) :=
  (bif (decide (z1932 < ((x1792.l).length : Int))) then ((geto x1792.l z1932).bind fun x1942 => (bif (decide (z1932 > (0:Int))) then ((geto x1792.l (IntKind.i64.wrap (z1932 - (1:Int)))).bind fun x1964 => ((mvcc_ahead x1964 x1942.Epoch x1942.Index).bind fun t1975 => (bif (!t1975) then (inrO (inrO (some false))) else (bif x1942.Del then (bif (decide (((x1942.Val).length : Int) > (0:Int))) then (inrO (inrO (some false))) else (some (Sum.inl (IntKind.i64.wrap (z1932 + (1:Int)))))) else (some (Sum.inl (IntKind.i64.wrap (z1932 + (1:Int))))))))) else (bif x1942.Del then (bif (decide (((x1942.Val).length : Int) > (0:Int))) then (inrO (inrO (some false))) else (some (Sum.inl (IntKind.i64.wrap (z1932 + (1:Int)))))) else (some (Sum.inl (IntKind.i64.wrap (z1932 + (1:Int)))))))) else (inrO (some (Sum.inl (IntKind.i64.wrap (z1782 + (1:Int)))))))
noncomputable def mvcc_Store_right_j1 (x1792 : mvcc_row) (z1782 : Int) (_s : Unit) : Option ((Int) ⊕ (Bool)) :=
  (loopO (mvcc_Store_right_l2 x1792 z1782) (0:Int))
noncomputable def mvcc_Store_right_l0 (o0 : mvcc_Store) (z1782 : (Int)) : Option ((Int) ⊕ (Bool)) :=
  (bif (decide (z1782 < ((o0.rows).length : Int))) then ((geto o0.rows z1782).bind fun x1792 => (joinO (bif (decide (z1782 > (0:Int))) then ((geto o0.rows (IntKind.i64.wrap (z1782 - (1:Int)))).bind fun x1808 => (bif (decide (x1808.rank ≥ x1792.rank)) then (inrO (inrO (some false))) else (bif (((x1792.l).length : Int) == (0:Int)) then (inrO (inrO (some false))) else ((number_Back x1792.rank).bind fun t1815 => ((number_Rank t1815).bind fun t1820 => (bif (t1820 != x1792.rank) then (inrO (inrO (some false))) else (some (Sum.inl ())))))))) else (bif (((x1792.l).length : Int) == (0:Int)) then (inrO (inrO (some false))) else ((number_Back x1792.rank).bind fun t1827 => ((number_Rank t1827).bind fun t1832 => (bif (t1832 != x1792.rank) then (inrO (inrO (some false))) else (some (Sum.inl ()))))))) (mvcc_Store_right_j1 x1792 z1782))) else (inrO (some true)))
noncomputable def mvcc_Store_right (a0 : (Option mvcc_Store)) : Option (Bool) :=
  (match a0 with | none => none | some o0 => (loopO (mvcc_Store_right_l0 o0) (0:Int)))

noncomputable def mvcc_Decode_l3 (t1323 : (Int × octet_Reader)) (s : ((List mvcc_Version) × octet_Reader × Int)) : Option (((List mvcc_Version) × octet_Reader × Int) ⊕ (octet_Reader × (List mvcc_Version))) :=
  match s with | (z1453, z1456, z1457) => (bif (decide (z1457 < t1323.1)) then ((octet_Reader_Num z1456 (8:Int)).bind fun t1468 => ((octet_Reader_Num t1468.2 (8:Int)).bind fun t1473 => ((octet_Reader_Flag t1473.2).bind fun t1478 => ((octet_Reader_Bytes t1478.2 (256:Int)).bind fun t1483 => (gd (room z1453 ([({ Epoch := t1468.1, Index := t1473.1, Del := t1478.1, Val := t1483.1 } : mvcc_Version)])) (some (Sum.inl ((z1453 ++ ([({ Epoch := t1468.1, Index := t1473.1, Del := t1478.1, Val := t1483.1 } : mvcc_Version)])), t1483.2, (IntKind.i64.wrap (z1457 + (1:Int))))))))))) else (inrO (some (z1456, z1453))))
noncomputable def mvcc_Decode_j2 (z1292 : mvcc_Store) (t1304 : (Int × octet_Reader)) (z1293 : Int) (s : (octet_Reader × (List mvcc_Version))) : Option ((octet_Reader × mvcc_Store × Int) ⊕ (octet_Reader × mvcc_Store)) :=
  match s with | (z1507, z1510) => (gd (room z1292.rows ([({ rank := t1304.1, l := z1510 } : mvcc_row)])) (some (Sum.inl (z1507, ({ rows := (z1292.rows ++ ([({ rank := t1304.1, l := z1510 } : mvcc_row)])) } : mvcc_Store), (IntKind.i64.wrap (z1293 + (1:Int)))))))
noncomputable def mvcc_Decode_l1 (t819 : (Int × octet_Reader)) (s : (octet_Reader × mvcc_Store × Int)) : Option ((octet_Reader × mvcc_Store × Int) ⊕ (octet_Reader × mvcc_Store)) :=
  match s with | (z1291, z1292, z1293) => (bif (decide (z1293 < t819.1)) then ((octet_Reader_Num z1291 (8:Int)).bind fun t1304 => ((octet_Reader_Left t1304.2).bind fun t1318 => ((octet_Reader_Count t1304.2 t1318).bind fun t1323 => (((loopO (mvcc_Decode_l3 t1323) ([], t1323.2, (0:Int)))).bind (mvcc_Decode_j2 z1292 t1304 z1293))))) else (inrO (some (z1291, z1292))))
noncomputable def mvcc_Decode_j0 (s : (octet_Reader × mvcc_Store)) : Option (Option mvcc_Store × Int) :=
  match s with | (z1535, z1536) => ((octet_Reader_End z1535).bind fun t1544 => (bif (!t1544) then (some (none, (5:Int))) else ((mvcc_Store_right (some z1536)).bind fun t1551 => (bif (!t1551) then (some (none, (5:Int))) else (some ((some z1536), (0:Int)))))))
noncomputable def mvcc_Decode (a0 : (List Int)) : Option (Option mvcc_Store × Int) :=
  ((octet_Read a0).bind fun t800 => (mvcc_New.bind fun t807 => ((octet_Reader_Left t800).bind fun t814 => ((octet_Reader_Count t800 t814).bind fun t819 => (((loopO (mvcc_Decode_l1 t819) (t819.2, t807, (0:Int)))).bind (mvcc_Decode_j0))))))

noncomputable def ref11_Ats_l2 (z1436 : (List Nat)) (a0 : (List ref11_Version)) (z1439 : Int) (z1497 : (Int)) : Option ((Int) ⊕ (Int)) :=
  (bif (decide (z1497 < ((z1436).length : Int))) then ((geto z1436 z1497).bind fun x1507 => ((geto a0 z1439).bind fun x1512 => ((ref01_Ahead x1507 x1512.At).bind fun t1523 => (bif t1523 then (some (Sum.inl (IntKind.i64.wrap (z1497 + (1:Int))))) else (inrO (some z1497)))))) else (inrO (some z1497)))
noncomputable def ref11_Ats_j1 (z1436 : (List Nat)) (a0 : (List ref11_Version)) (z1439 : Int) (z1529 : (Int)) : Option (((List Nat) × Int) ⊕ ((List Nat))) :=
  (bif (decide (z1529 < ((z1436).length : Int))) then ((geto z1436 z1529).bind fun x1536 => ((geto a0 z1439).bind fun x1541 => ((ref01_Same x1536 x1541.At).bind fun t1552 => (bif t1552 then (some (Sum.inl (z1436, (IntKind.i64.wrap (z1439 + (1:Int)))))) else (gd (fits z1436 (0:Int) z1529) (gd (room ([] : List Nat) (subs z1436 (0:Int) z1529)) (gd (room (subs z1436 (0:Int) z1529) ([x1541.At])) (gd (fits z1436 z1529 (((z1436).length : Nat) : Int)) (gd (room ((subs z1436 (0:Int) z1529) ++ ([x1541.At])) (subs z1436 z1529 (((z1436).length : Nat) : Int))) (some (Sum.inl ((((subs z1436 (0:Int) z1529) ++ ([x1541.At])) ++ (subs z1436 z1529 (((z1436).length : Nat) : Int))), (IntKind.i64.wrap (z1439 + (1:Int))))))))))))))) else (gd (fits z1436 (0:Int) z1529) (gd (room ([] : List Nat) (subs z1436 (0:Int) z1529)) ((geto a0 z1439).bind fun x1615 => (gd (room (subs z1436 (0:Int) z1529) ([x1615.At])) (gd (fits z1436 z1529 (((z1436).length : Nat) : Int)) (gd (room ((subs z1436 (0:Int) z1529) ++ ([x1615.At])) (subs z1436 z1529 (((z1436).length : Nat) : Int))) (some (Sum.inl ((((subs z1436 (0:Int) z1529) ++ ([x1615.At])) ++ (subs z1436 z1529 (((z1436).length : Nat) : Int))), (IntKind.i64.wrap (z1439 + (1:Int)))))))))))))
noncomputable def ref11_Ats_l0 (a0 : (List ref11_Version)) (s : ((List Nat) × Int)) : Option (((List Nat) × Int) ⊕ ((List Nat))) :=
  match s with | (z1436, z1439) => (bif (decide (z1439 < ((a0).length : Int))) then (((loopO (ref11_Ats_l2 z1436 a0 z1439) (0:Int))).bind (ref11_Ats_j1 z1436 a0 z1439)) else (inrO (some z1436)))
noncomputable def ref11_Ats (a0 : (List ref11_Version)) : Option ((List Nat)) :=
  (loopO (ref11_Ats_l0 a0) ([], (0:Int)))

noncomputable def ref11_last_l0 (a0 : (List ref11_Version)) (a1 : Nat) (a2 : Int) (s : (Int × Int)) : Option ((Int × Int) ⊕ (Int)) :=
  match s with | (z539, z540) => (bif (decide (z540 < ((a0).length : Int))) then ((geto a0 z540).bind fun x550 => ((ref01_Same x550.At a1).bind fun t561 => (bif t561 then (bif (decide (x550.Epoch ≤ a2)) then (bif (decide (z539 < (0:Int))) then (some (Sum.inl (z540, (IntKind.i64.wrap (z540 + (1:Int)))))) else ((geto a0 z539).bind fun x575 => (bif (decide (x575.Epoch < x550.Epoch)) then (some (Sum.inl (z540, (IntKind.i64.wrap (z540 + (1:Int)))))) else (bif (x575.Epoch == x550.Epoch) then (bif (decide (x575.Index < x550.Index)) then (some (Sum.inl (z540, (IntKind.i64.wrap (z540 + (1:Int)))))) else (some (Sum.inl (z539, (IntKind.i64.wrap (z540 + (1:Int))))))) else (some (Sum.inl (z539, (IntKind.i64.wrap (z540 + (1:Int)))))))))) else (some (Sum.inl (z539, (IntKind.i64.wrap (z540 + (1:Int))))))) else (some (Sum.inl (z539, (IntKind.i64.wrap (z540 + (1:Int))))))))) else (inrO (some z539)))
noncomputable def ref11_last (a0 : (List ref11_Version)) (a1 : Nat) (a2 : Int) : Option (Int) :=
  (loopO (ref11_last_l0 a0 a1 a2) (((-1):Int), (0:Int)))

noncomputable def ref11_Get (a0 : (List ref11_Version)) (a1 : Nat) (a2 : Int) : Option (api_Got) :=
  ((ref11_last a0 a1 a2).bind fun t357 => (bif (decide (t357 < (0:Int))) then (some ({ Has := false, Val := [] } : api_Got)) else ((geto a0 t357).bind fun x367 => (bif x367.Del then (some ({ Has := false, Val := [] } : api_Got)) else (some ({ Has := true, Val := x367.Val } : api_Got))))))

noncomputable def ref11_SameGots_l0 (a0 : (List api_Got)) (a1 : (List api_Got)) (z458 : (Int)) : Option ((Int) ⊕ (Bool)) :=
  (bif (decide (z458 < ((a0).length : Int))) then ((geto a0 z458).bind fun x468 => ((geto a1 z458).bind fun x479 => (bif (!(x468.Has == x479.Has)) then (inrO (some false)) else (bif (!(sEq (toStr x468.Val) (toStr x479.Val))) then (inrO (some false)) else (some (Sum.inl (IntKind.i64.wrap (z458 + (1:Int))))))))) else (inrO (some true)))
noncomputable def ref11_SameGots (a0 : (List api_Got)) (a1 : (List api_Got)) : Option (Bool) :=
  (bif (((a0).length : Int) != ((a1).length : Int)) then (some false) else (loopO (ref11_SameGots_l0 a0 a1) (0:Int)))

noncomputable def slices_Clone_mvcc_Version_mvcc_Version (a0 : (List mvcc_Version)) : Option ((List mvcc_Version)) :=
  gd (room ([] : (List mvcc_Version)) a0) (some a0)

noncomputable def mvcc_Store_Versions (a0 : (Option mvcc_Store)) (a1 : Nat) : Option ((List mvcc_Version)) :=
  (match a0 with | none => ((number_Rank a1).bind fun t711 => ((mvcc_Store_find none t711).bind fun t717 => (bif (!t717.2) then (some ([])) else none))) | some o0 => ((number_Rank a1).bind fun t725 => ((mvcc_Store_find (some o0) t725).bind fun t730 => (bif (!t730.2) then (some ([])) else ((geto o0.rows t730.1).bind fun x740 => ((slices_Clone_mvcc_Version_mvcc_Version x740.l).bind fun t749 => (some t749)))))))

noncomputable def law11_told_j3 (z3185 : Int) (z3294 : (Bool)) : Option ((Int) ⊕ (Unit ⊕ ((Int) ⊕ (Bool)))) :=
  (bif z3294 then (inrO (inrO (inrO (some false)))) else (some (Sum.inl (IntKind.u64.wrap (z3185 + (1:Int))))))
noncomputable def law11_told_l2 (t1893 : ((List Nat))) (z2957 : Int) (a0 : (Option mvcc_Store)) (a1 : (List ref11_Version)) (z3185 : (Int)) : Option ((Int) ⊕ (Unit ⊕ ((Int) ⊕ (Bool)))) :=
  (bif (decide (z3185 < (9:Int))) then ((((geto t1893 z2957).bind fun x3196 => ((mvcc_Store_Get a0 x3196 z3185).bind fun t3201 => ((ref11_Get a1 x3196 z3185).bind fun t3208 => ((ref11_SameGots ([t3201]) ([t3208])).bind fun t3235 => (some (!t3235))))))).bind (law11_told_j3 z3185)) else (inrO (some (Sum.inl ()))))
noncomputable def law11_told_l5 (a1 : (List ref11_Version)) (x3310 : Nat) (s : (Int × Int)) : Option ((Int × Int) ⊕ (Int)) :=
  match s with | (z3360, z3361) => (bif (decide (z3360 < ((a1).length : Int))) then ((geto a1 z3360).bind fun x3371 => ((ref01_Same x3371.At x3310).bind fun t3382 => (bif t3382 then (some (Sum.inl ((IntKind.i64.wrap (z3360 + (1:Int))), (IntKind.i64.wrap (z3361 + (1:Int)))))) else (some (Sum.inl ((IntKind.i64.wrap (z3360 + (1:Int))), z3361)))))) else (inrO (some z3361)))
noncomputable def law11_told_l6 (t3315 : ((List mvcc_Version))) (z2957 : Int) (z3452 : (Int)) : Option ((Int) ⊕ ((Int) ⊕ (Bool))) :=
  (bif (decide (z3452 < ((t3315).length : Int))) then ((geto t3315 (IntKind.i64.wrap (z3452 - (1:Int)))).bind fun x3464 => ((geto t3315 z3452).bind fun x3475 => (bif (decide (x3464.Epoch > x3475.Epoch)) then (inrO (inrO (some false))) else (bif (x3464.Epoch == x3475.Epoch) then (bif (decide (x3464.Index ≥ x3475.Index)) then (inrO (inrO (some false))) else (some (Sum.inl (IntKind.i64.wrap (z3452 + (1:Int)))))) else (some (Sum.inl (IntKind.i64.wrap (z3452 + (1:Int))))))))) else (inrO (some (Sum.inl (IntKind.i64.wrap (z2957 + (1:Int)))))))
noncomputable def law11_told_j4 (t3315 : ((List mvcc_Version))) (z2957 : Int) (z3388 : (Int)) : Option ((Int) ⊕ (Bool)) :=
  (bif (((t3315).length : Int) != z3388) then (inrO (some false)) else (loopO (law11_told_l6 t3315 z2957) (1:Int)))
noncomputable def law11_told_j1 (t1893 : ((List Nat))) (z2957 : Int) (a0 : (Option mvcc_Store)) (a1 : (List ref11_Version)) (_s : Unit) : Option ((Int) ⊕ (Bool)) :=
  ((geto t1893 z2957).bind fun x3310 => ((mvcc_Store_Versions a0 x3310).bind fun t3315 => (((loopO (law11_told_l5 a1 x3310) ((0:Int), (0:Int)))).bind (law11_told_j4 t3315 z2957))))
noncomputable def law11_told_l0 (t1893 : ((List Nat))) (a0 : (Option mvcc_Store)) (a1 : (List ref11_Version)) (z2957 : (Int)) : Option ((Int) ⊕ (Bool)) :=
  (bif (decide (z2957 < ((t1893).length : Int))) then (joinO (loopO (law11_told_l2 t1893 z2957 a0 a1) (0:Int)) (law11_told_j1 t1893 z2957 a0 a1)) else (inrO (some true)))
noncomputable def law11_told (a0 : (Option mvcc_Store)) (a1 : (List ref11_Version)) : Option (Bool) :=
  ((ref11_Ats a1).bind fun t1893 => ((mvcc_Store_Len a0).bind fun t1900 => (bif (t1900 != ((t1893).length : Int)) then (some false) else ((mvcc_Store_Size a0).bind fun t1906 => (bif (t1906 != ((a1).length : Int)) then (some false) else (loopO (law11_told_l0 t1893 a0 a1) (0:Int)))))))

noncomputable def law11_MvccBytes_j2 (z503 : (Option mvcc_Store)) (x518 : law11_Ver) (z505 : (List ref11_Version)) (z504 : Int) (z560 : (Nat)) : Option (((Option mvcc_Store) × Int × (List ref11_Version)) ⊕ (((List ref11_Version) × (Option mvcc_Store)) ⊕ (Bool))) :=
  ((mvcc_Store_Put z503 z560 ({ Epoch := (IntKind.u64.wrap (Int.tmod x518.E (8:Int))), Index := (IntKind.u64.wrap (Int.tmod x518.I (5:Int))), Del := x518.Del, Val := x518.V } : mvcc_Version)).bind fun t567 => ((ref11_Put z505 ({ At := z560, Epoch := (IntKind.u64.wrap (Int.tmod x518.E (8:Int))), Index := (IntKind.u64.wrap (Int.tmod x518.I (5:Int))), Del := x518.Del, Val := x518.V } : ref11_Version)).bind fun t575 => (some (Sum.inl (t567, (IntKind.i64.wrap (z504 + (1:Int))), t575)))))
noncomputable def law11_MvccBytes_l1 (a1 : (List law11_Ver)) (s : ((Option mvcc_Store) × Int × (List ref11_Version))) : Option (((Option mvcc_Store) × Int × (List ref11_Version)) ⊕ (((List ref11_Version) × (Option mvcc_Store)) ⊕ (Bool))) :=
  match s with | (z503, z504, z505) => (bif (decide (z504 < ((a1).length : Int))) then ((geto a1 z504).bind fun x518 => (bif (decide (((x518.V).length : Int) > (100:Int))) then (inrO (inrO (some true))) else ((((law11_at x518).bind fun t530 => (some t530))).bind (law11_MvccBytes_j2 z503 x518 z505 z504)))) else (inrO (some (Sum.inl (z505, z503)))))
noncomputable def law11_MvccBytes_j0 (s : ((List ref11_Version) × (Option mvcc_Store))) : Option (Bool) :=
  match s with | (z584, z585) => ((law11_told z585 z584).bind fun t596 => (some t596))
noncomputable def law11_MvccBytes (a0 : (List law11_Ver)) (a1 : (List law11_Ver)) : Option (Bool) :=
  ((law11_fill a0).bind fun t303 => (law11_awake.bind fun t312 => (bif (!t312) then (law11_awake.bind fun t318 => (some t318)) else (bif (!t303.2.2) then (law11_awake.bind fun t324 => (some t324)) else (bif (decide (((a1).length : Int) > (20:Int))) then (law11_awake.bind fun t330 => (some t330)) else ((mvcc_Store_Encode (some t303.1)).bind fun t335 => ((mvcc_Decode t335).bind fun t345 => (bif (t345.2 != (0:Int)) then (some false) else ((mvcc_Store_Encode t345.1).bind fun t353 => ((mvcc_Store_Encode (some t303.1)).bind fun t360 => (bif (!(sEq (toStr t353) (toStr t360))) then (some false) else (joinO (loopO (law11_MvccBytes_l1 a1) (t345.1, (0:Int), t303.2.1)) (law11_MvccBytes_j0)))))))))))))

noncomputable def law11_MvccPuts (a0 : (List law11_Ver)) (a1 : Nat) (a2 : Int) : Option (Bool) :=
  ((law11_fill a0).bind fun t77 => (law11_awake.bind fun t86 => (bif (!t86) then (law11_awake.bind fun t92 => (some t92)) else (bif (!t77.2.2) then (law11_awake.bind fun t98 => (some t98)) else ((law11_told (some t77.1) t77.2.1).bind fun t106 => (bif t106 then ((mvcc_Store_Get (some t77.1) a1 a2).bind fun t112 => ((ref11_Get t77.2.1 a1 a2).bind fun t128 => ((ref11_SameGots ([t112]) ([t128])).bind fun t146 => (some t146)))) else (some false)))))))

noncomputable def mvcc_Store_Scan_l0 (o0 : mvcc_Store) (a2 : Nat) (a4 : Int) (a3 : Int) (s : ((List api_Pair) × Int)) : Option (((List api_Pair) × Int) ⊕ ((List api_Pair))) :=
  match s with | (z492, z495) => (bif (decide (z495 < ((o0.rows).length : Int))) then ((geto o0.rows z495).bind fun x510 => ((number_Rank a2).bind fun t515 => (bif (decide (x510.rank ≤ t515)) then (bif (decide (((z492).length : Int) < a4)) then ((mvcc_read x510.l a3).bind fun t526 => (bif t526.Has then ((number_Back x510.rank).bind fun t542 => (gd (room z492 ([({ At := t542, Val := t526.Val } : api_Pair)])) (some (Sum.inl ((z492 ++ ([({ At := t542, Val := t526.Val } : api_Pair)])), (IntKind.i64.wrap (z495 + (1:Int)))))))) else (some (Sum.inl (z492, (IntKind.i64.wrap (z495 + (1:Int)))))))) else (inrO (some z492))) else (inrO (some z492))))) else (inrO (some z492)))
noncomputable def mvcc_Store_Scan (a0 : (Option mvcc_Store)) (a1 : Nat) (a2 : Nat) (a3 : Int) (a4 : Int) : Option ((List api_Pair)) :=
  (match a0 with | none => (some ([])) | some o0 => ((number_Rank a1).bind fun t307 => ((mvcc_Store_find (some o0) t307).bind fun t312 => (loopO (mvcc_Store_Scan_l0 o0 a2 a4 a3) ([], t312.1)))))

noncomputable def ref01_Within (a0 : Nat) (a1 : Nat) (a2 : Nat) : Option (Bool) :=
  ((ref01_Ahead a0 a1).bind fun t88 => (bif (!t88) then ((ref01_Ahead a2 a0).bind fun t94 => (some (!t94))) else (some false)))

noncomputable def ref11_Scan_l0 (t241 : ((List Nat))) (a4 : Int) (a0 : (List ref11_Version)) (a3 : Int) (a1 : Nat) (a2 : Nat) (s : ((List api_Pair) × Int)) : Option (((List api_Pair) × Int) ⊕ ((List api_Pair))) :=
  match s with | (z378, z381) => (bif (decide (z381 < ((t241).length : Int))) then (bif (decide (((z378).length : Int) < a4)) then ((geto t241 z381).bind fun x393 => ((ref11_Get a0 x393 a3).bind fun t398 => (bif t398.Has then ((ref01_Within x393 a1 a2).bind fun t415 => (bif t415 then (gd (room z378 ([({ At := x393, Val := t398.Val } : api_Pair)])) (some (Sum.inl ((z378 ++ ([({ At := x393, Val := t398.Val } : api_Pair)])), (IntKind.i64.wrap (z381 + (1:Int))))))) else (some (Sum.inl (z378, (IntKind.i64.wrap (z381 + (1:Int)))))))) else (some (Sum.inl (z378, (IntKind.i64.wrap (z381 + (1:Int))))))))) else (inrO (some z378))) else (inrO (some z378)))
noncomputable def ref11_Scan (a0 : (List ref11_Version)) (a1 : Nat) (a2 : Nat) (a3 : Int) (a4 : Int) : Option ((List api_Pair)) :=
  ((ref11_Ats a0).bind fun t241 => (loopO (ref11_Scan_l0 t241 a4 a0 a3 a1 a2) ([], (0:Int))))

noncomputable def ref11_SamePairs_l0 (a0 : (List api_Pair)) (a1 : (List api_Pair)) (z280 : (Int)) : Option ((Int) ⊕ (Bool)) :=
  (bif (decide (z280 < ((a0).length : Int))) then ((geto a0 z280).bind fun x290 => ((geto a1 z280).bind fun x301 => ((ref01_Same x290.At x301.At).bind fun t312 => (bif (!t312) then (inrO (some false)) else (bif (!(sEq (toStr x290.Val) (toStr x301.Val))) then (inrO (some false)) else (some (Sum.inl (IntKind.i64.wrap (z280 + (1:Int)))))))))) else (inrO (some true)))
noncomputable def ref11_SamePairs (a0 : (List api_Pair)) (a1 : (List api_Pair)) : Option (Bool) :=
  (bif (((a0).length : Int) != ((a1).length : Int)) then (some false) else (loopO (ref11_SamePairs_l0 a0 a1) (0:Int)))

noncomputable def law11_MvccScans_j0 (t87 : (mvcc_Store × (List ref11_Version) × Bool)) (a4 : Int) (a5 : Int) (s : (Nat × Nat)) : Option (Bool) :=
  match s with | (z114, z115) => ((mvcc_Store_Scan (some t87.1) z114 z115 (Int.tmod a4 (9:Int)) a5).bind fun t121 => ((ref11_Scan t87.2.1 z114 z115 (Int.tmod a4 (9:Int)) a5).bind fun t131 => ((ref11_SamePairs t121 t131).bind fun t142 => (bif t142 then ((mvcc_Store_Scan (some t87.1) z114 z115 (18446744073709551615:Int) (1000:Int)).bind fun t148 => ((ref11_Scan t87.2.1 z114 z115 (18446744073709551615:Int) (1000:Int)).bind fun t155 => ((ref11_SamePairs t148 t155).bind fun t166 => (some t166)))) else (some false)))))
noncomputable def law11_MvccScans (a0 : (List law11_Ver)) (a1 : Nat) (a2 : Nat) (a3 : Bool) (a4 : Int) (a5 : Int) : Option (Bool) :=
  ((law11_fill a0).bind fun t87 => (law11_awake.bind fun t96 => (bif (!t96) then (law11_awake.bind fun t102 => (some t102)) else (bif (!t87.2.2) then (law11_awake.bind fun t108 => (some t108)) else (((bif a3 then (some ((13830554455654793216:Nat), (4607182418800017408:Nat))) else (some (a1, a2)))).bind (law11_MvccScans_j0 t87 a4 a5))))))

noncomputable def mvcc_Store_Trim_l2 (x1127 : mvcc_row) (a1 : Int) (s : (Int × Int)) : Option ((Int × Int) ⊕ (Int)) :=
  match s with | (z1184, z1185) => (bif (decide (z1184 < z1185)) then (((geto x1127.l (IntKind.i64.wrap (iShr .u64 (IntKind.u64.wrap (IntKind.i64.wrap (z1184 + z1185))) (1:Int)))).bind fun x1195 => (some (decide (x1195.Epoch > a1)))).bind fun z1206 => (bif (!z1206) then (some (Sum.inl ((IntKind.i64.wrap ((IntKind.i64.wrap (iShr .u64 (IntKind.u64.wrap (IntKind.i64.wrap (z1184 + z1185))) (1:Int))) + (1:Int))), z1185))) else (some (Sum.inl (z1184, (IntKind.i64.wrap (iShr .u64 (IntKind.u64.wrap (IntKind.i64.wrap (z1184 + z1185))) (1:Int)))))))) else (inrO (some z1184)))
noncomputable def mvcc_Store_Trim_j3 (z1115 : (List mvcc_row)) (x1127 : mvcc_row) (z1114 : Int) (z1250 : ((List mvcc_Version))) : Option ((Int × (List mvcc_row)) ⊕ ((List mvcc_row))) :=
  (bif (decide (((z1250).length : Int) > (0:Int))) then (gd (room z1115 ([({ rank := x1127.rank, l := z1250 } : mvcc_row)])) (some (Sum.inl ((IntKind.i64.wrap (z1114 + (1:Int))), (z1115 ++ ([({ rank := x1127.rank, l := z1250 } : mvcc_row)])))))) else (some (Sum.inl ((IntKind.i64.wrap (z1114 + (1:Int))), z1115))))
noncomputable def mvcc_Store_Trim_l1 (o0 : mvcc_Store) (a1 : Int) (s : (Int × (List mvcc_row))) : Option ((Int × (List mvcc_row)) ⊕ ((List mvcc_row))) :=
  match s with | (z1114, z1115) => (bif (decide (z1114 < ((o0.rows).length : Int))) then ((geto o0.rows z1114).bind fun x1127 => ((loopO (mvcc_Store_Trim_l2 x1127 a1) ((0:Int), ((x1127.l).length : Int))).bind fun z1212 => (gd (fits x1127.l (if (0:Int) > (IntKind.i64.wrap (z1212 - (1:Int))) then (0:Int) else (IntKind.i64.wrap (z1212 - (1:Int)))) (((x1127.l).length : Nat) : Int)) ((slices_Clone_mvcc_Version_mvcc_Version (subs x1127.l (if (0:Int) > (IntKind.i64.wrap (z1212 - (1:Int))) then (0:Int) else (IntKind.i64.wrap (z1212 - (1:Int)))) (((x1127.l).length : Nat) : Int))).bind fun t1223 => (((bif (decide (z1212 > (0:Int))) then ((geto t1223 (0:Int)).bind fun x1231 => (bif x1231.Del then (gd (fits t1223 (1:Int) (((t1223).length : Nat) : Int)) (some (subs t1223 (1:Int) (((t1223).length : Nat) : Int)))) else (some t1223))) else (some t1223))).bind (mvcc_Store_Trim_j3 z1115 x1127 z1114)))))) else (inrO (some z1115)))
noncomputable def mvcc_Store_Trim_j0 (z1273 : ((List mvcc_row))) : Option ((Option mvcc_Store)) :=
  (some (some ({ rows := z1273 } : mvcc_Store)))
noncomputable def mvcc_Store_Trim (a0 : (Option mvcc_Store)) (a1 : Int) : Option ((Option mvcc_Store)) :=
  (match a0 with | none => (some none) | some o0 => (((loopO (mvcc_Store_Trim_l1 o0 a1) ((0:Int), []))).bind (mvcc_Store_Trim_j0)))

noncomputable def ref11_Trim_l0 (a0 : (List ref11_Version)) (a1 : Int) (s : ((List ref11_Version) × Int)) : Option (((List ref11_Version) × Int) ⊕ ((List ref11_Version))) :=
  match s with | (z406, z409) => (bif (decide (z409 < ((a0).length : Int))) then ((geto a0 z409).bind fun x419 => ((ref11_last a0 x419.At a1).bind fun t430 => (bif (decide (x419.Epoch > a1)) then (gd (room z406 ([x419])) (some (Sum.inl ((z406 ++ ([x419])), (IntKind.i64.wrap (z409 + (1:Int))))))) else (bif (t430 == z409) then (bif (!x419.Del) then (gd (room z406 ([x419])) (some (Sum.inl ((z406 ++ ([x419])), (IntKind.i64.wrap (z409 + (1:Int))))))) else (some (Sum.inl (z406, (IntKind.i64.wrap (z409 + (1:Int))))))) else (some (Sum.inl (z406, (IntKind.i64.wrap (z409 + (1:Int)))))))))) else (inrO (some z406)))
noncomputable def ref11_Trim (a0 : (List ref11_Version)) (a1 : Int) : Option ((List ref11_Version)) :=
  (loopO (ref11_Trim_l0 a0 a1) ([], (0:Int)))

noncomputable def law11_MvccTrims_j2 (z2045 : Int) (z2154 : (Bool)) : Option ((Int) ⊕ ((Int) ⊕ (Bool))) :=
  (bif z2154 then (inrO (inrO (some false))) else (some (Sum.inl (IntKind.u64.wrap (z2045 + (1:Int))))))
noncomputable def law11_MvccTrims_l1 (t1111 : ((List Nat))) (z1817 : Int) (y1123 : mvcc_Store) (t1083 : (mvcc_Store × (List ref11_Version) × Bool)) (z2045 : (Int)) : Option ((Int) ⊕ ((Int) ⊕ (Bool))) :=
  (bif (decide (z2045 < (9:Int))) then ((((geto t1111 z1817).bind fun x2056 => ((mvcc_Store_Get (some y1123) x2056 z2045).bind fun t2061 => ((ref11_Get t1083.2.1 x2056 z2045).bind fun t2068 => ((ref11_SameGots ([t2061]) ([t2068])).bind fun t2095 => (some (!t2095))))))).bind (law11_MvccTrims_j2 z2045)) else (inrO (some (Sum.inl (IntKind.i64.wrap (z1817 + (1:Int)))))))
noncomputable def law11_MvccTrims_l0 (t1111 : ((List Nat))) (y1123 : mvcc_Store) (t1083 : (mvcc_Store × (List ref11_Version) × Bool)) (a1 : Int) (z1817 : (Int)) : Option ((Int) ⊕ (Bool)) :=
  (bif (decide (z1817 < ((t1111).length : Int))) then (loopO (law11_MvccTrims_l1 t1111 z1817 y1123 t1083) (Int.tmod a1 (9:Int))) else (inrO (some true)))
noncomputable def law11_MvccTrims (a0 : (List law11_Ver)) (a1 : Int) : Option (Bool) :=
  ((law11_fill a0).bind fun t1083 => (law11_awake.bind fun t1092 => (bif (!t1092) then (law11_awake.bind fun t1098 => (some t1098)) else (bif (!t1083.2.2) then (law11_awake.bind fun t1104 => (some t1104)) else ((ref11_Ats t1083.2.1).bind fun t1111 => ((mvcc_Store_Trim (some t1083.1) (Int.tmod a1 (9:Int))).bind fun t1118 => (match t1118 with | none => none | some y1123 => ((ref11_Trim t1083.2.1 (Int.tmod a1 (9:Int))).bind fun t1128 => ((law11_told (some y1123) t1128).bind fun t1138 => (bif (!t1138) then (some false) else (loopO (law11_MvccTrims_l0 t1111 y1123 t1083 a1) (0:Int))))))))))))

noncomputable def law11_MvccKeeps_l1 (s : (Int × (List Int))) : Option ((Int × (List Int)) ⊕ Unit) :=
  match s with | (z275, z276) => (bif (decide (z275 < ((z276).length : Int))) then ((geto z276 z275).bind fun x286 => (some (Sum.inl ((IntKind.i64.wrap (z275 + (1:Int))), (z276.set z275.toNat (0:Int)))))) else (inrO (some ())))
noncomputable def law11_MvccKeeps_l3 (s : (Int × (List Int))) : Option ((Int × (List Int)) ⊕ Unit) :=
  match s with | (z339, z340) => (bif (decide (z339 < ((z340).length : Int))) then ((geto z340 z339).bind fun x350 => (some (Sum.inl ((IntKind.i64.wrap (z339 + (1:Int))), (z340.set z339.toNat (1:Int)))))) else (inrO (some ())))
noncomputable def law11_MvccKeeps_j2 (a1 : Nat) (a2 : Int) (y251 : mvcc_Store) (a0 : (List Int)) (_s : Unit) : Option (Bool) :=
  ((mvcc_Store_Put none a1 zero_mvcc_Version).bind fun t367 => ((mvcc_Store_Trim none a2).bind fun t373 => ((mvcc_Store_Get (some y251) a1 a2).bind fun t378 => (bif (sEq (toStr t378.Val) (toStr a0)) then ((mvcc_Store_Get none a1 a2).bind fun t387 => (bif (!t387.Has) then ((mvcc_Store_Scan none a1 a1 a2 (5:Int)).bind fun t396 => ((mvcc_Store_Versions none a1).bind fun t404 => ((mvcc_Store_Len none).bind fun t412 => ((mvcc_Store_Size none).bind fun t418 => (some ((IntKind.i64.wrap ((IntKind.i64.wrap ((IntKind.i64.wrap (((t396).length : Int) + ((t404).length : Int))) + t412)) + t418)) == (0:Int))))))) else (some false))) else (some false)))))
noncomputable def law11_MvccKeeps_j0 (y251 : mvcc_Store) (a1 : Nat) (a2 : Int) (a0 : (List Int)) (_s : Unit) : Option (Bool) :=
  ((mvcc_Store_Get (some y251) a1 a2).bind fun t300 => (bif (!t300.Has) then (some false) else (bif (!(sEq (toStr t300.Val) (toStr a0))) then (some false) else (((loopO (law11_MvccKeeps_l3) ((0:Int), t300.Val))).bind (law11_MvccKeeps_j2 a1 a2 y251 a0)))))
noncomputable def law11_MvccKeeps (a0 : (List Int)) (a1 : Nat) (a2 : Int) : Option (Bool) :=
  (law11_awake.bind fun t213 => (bif (!t213) then (law11_awake.bind fun t219 => (some t219)) else (bif (decide (((a0).length : Int) > (100:Int))) then (law11_awake.bind fun t225 => (some t225)) else (gd (room ([] : List Int) a0) (mvcc_New.bind fun t236 => ((mvcc_Store_Put (some t236) a1 ({ Epoch := a2, Index := (0:Int), Del := false, Val := a0 } : mvcc_Version)).bind fun t246 => (match t246 with | none => none | some y251 => (((loopO (law11_MvccKeeps_l1) ((0:Int), a0))).bind (law11_MvccKeeps_j0 y251 a1 a2 a0)))))))))

noncomputable def law11_MvccJunk_j0 (t102 : (mvcc_Store × (List ref11_Version) × Bool)) (a2 : Int) (a3 : Int) (_s : Unit) : Option (Bool) :=
  ((mvcc_Store_Encode (some t102.1)).bind fun t161 => (gd (!(((t161).length : Int) == (0:Int))) ((geto t161 (Int.tmod (IntKind.i64.wrap a2) ((t161).length : Int))).bind fun x169 => ((mvcc_Decode (t161.set (Int.tmod (IntKind.i64.wrap a2) ((t161).length : Int)).toNat (bXor .u8 x169 a3))).bind fun t181 => (bif (t181.2 == (0:Int)) then ((mvcc_Store_Encode t181.1).bind fun t189 => (bif (sEq (toStr t189) (toStr (t161.set (Int.tmod (IntKind.i64.wrap a2) ((t161).length : Int)).toNat (bXor .u8 x169 a3)))) then (some true) else (bif (t181.2 == (5:Int)) then (some (t181.1.isNone)) else (some false)))) else (bif (t181.2 == (5:Int)) then (some (t181.1.isNone)) else (some false)))))))
noncomputable def law11_MvccJunk (a0 : (List Int)) (a1 : (List law11_Ver)) (a2 : Int) (a3 : Int) : Option (Bool) :=
  ((law11_fill a1).bind fun t102 => (law11_awake.bind fun t111 => (bif (!t111) then (law11_awake.bind fun t117 => (some t117)) else (bif (!t102.2.2) then (law11_awake.bind fun t123 => (some t123)) else (bif (decide (((a0).length : Int) > (2000:Int))) then (law11_awake.bind fun t129 => (some t129)) else ((mvcc_Decode a0).bind fun t134 => (joinO (bif (t134.2 == (0:Int)) then ((mvcc_Store_Encode t134.1).bind fun t142 => (bif (!(sEq (toStr t142) (toStr a0))) then (inrO (some false)) else (bif (t134.2 != (0:Int)) then (bif (t134.2 != (5:Int)) then (inrO (some false)) else (bif (!(t134.1.isNone)) then (inrO (some false)) else (some (Sum.inl ())))) else (some (Sum.inl ()))))) else (bif (t134.2 != (0:Int)) then (bif (t134.2 != (5:Int)) then (inrO (some false)) else (bif (!(t134.1.isNone)) then (inrO (some false)) else (some (Sum.inl ())))) else (some (Sum.inl ())))) (law11_MvccJunk_j0 t102 a2 a3))))))))
end Go.Proofs.Ytbdnbohbmgmonaa
