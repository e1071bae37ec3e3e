/- The models of the Go functions: plain Lean, no memory. -/
import Derived.Test.YtbdhhmnncknhhaaLocksBytesGv
set_option linter.unusedVariables false
set_option linter.unusedSimpArgs false
set_option maxRecDepth 100000
set_option maxHeartbeats 4000000
namespace Go.Proofs.Ytbdhhmnncknhhaa
open Go Go.V
structure api_ID where
  Session : Int
  Seq : Int

structure api_Hold where
  ID : api_ID
  Epoch : Int
  Gets : (List Nat)
  Scans : (List (Nat × Nat))
  Puts : (List Nat)
  Data : (List Int)

structure locks_Table where
  l : (List api_Hold)

structure octet_Writer where
  p : (List Int)

structure octet_Reader where
  p : (List Int)
  bad : Bool

structure ref12_Tape where
  L : (List Int)
  I : Int

def zero_api_Hold : api_Hold := { ID := ({ Session := (0:Int), Seq := (0:Int) } : api_ID), Epoch := (0:Int), Gets := [], Scans := [], Puts := [], Data := [] }

noncomputable def locks_New : Option (locks_Table) :=
  (some ({ l := [] } : locks_Table))

noncomputable def math_IsNaN (a0 : Nat) : Option (Bool) :=
  (some (fNe a0 a0))

noncomputable def number_Rank (a0 : Nat) : Option (Int) :=
  ((math_IsNaN a0).bind fun t114 => (bif t114 then (some (18446744073709551615:Int)) else (bif ((iShr .u64 (Int.ofNat a0) (63:Int)) == (1:Int)) then (some (bXor .u64 ((18446744073709551615):Int) (Int.ofNat a0))) else (some (bOr .u64 (Int.ofNat a0) (9223372036854775808:Int))))))

noncomputable def number_Within (a0 : Nat) (a1 : Nat) (a2 : Nat) : Option (Bool) :=
  ((number_Rank a1).bind fun t128 => ((number_Rank a0).bind fun t133 => (bif (decide (t128 ≤ t133)) then ((number_Rank a0).bind fun t139 => ((number_Rank a2).bind fun t144 => (some (decide (t139 ≤ t144))))) else (some false))))

noncomputable def locks_writes_l0 (a0 : api_Hold) (a1 : Nat) (a2 : Nat) (z226 : (Int)) : Option ((Int) ⊕ (Int)) :=
  (bif (decide (z226 < ((a0.Puts).length : Int))) then ((geto a0.Puts z226).bind fun x236 => (((number_Within x236 a1 a2).bind fun t241 => (some t241)).bind fun z246 => (bif z246 then (inrO (some z226)) else (some (Sum.inl (IntKind.i64.wrap (z226 + (1:Int)))))))) else (inrO (some ((-1):Int))))
noncomputable def locks_writes (a0 : api_Hold) (a1 : Nat) (a2 : Nat) : Option (Bool) :=
  (((loopO (locks_writes_l0 a0 a1 a2) (0:Int)).bind fun z252 => (some (decide (z252 ≥ (0:Int))))).bind fun z257 => (some z257))

noncomputable def number_Same (a0 : Nat) (a1 : Nat) : Option (Bool) :=
  ((number_Rank a0).bind fun t118 => ((number_Rank a1).bind fun t123 => (some (t118 == t123))))

noncomputable def locks_reads_l0 (a0 : api_Hold) (a1 : Nat) (z309 : (Int)) : Option ((Int) ⊕ (Int)) :=
  (bif (decide (z309 < ((a0.Gets).length : Int))) then ((geto a0.Gets z309).bind fun x319 => (((number_Same a1 x319).bind fun t324 => (some t324)).bind fun z329 => (bif z329 then (inrO (some z309)) else (some (Sum.inl (IntKind.i64.wrap (z309 + (1:Int)))))))) else (inrO (some ((-1):Int))))
noncomputable def locks_reads_l1 (a0 : api_Hold) (a1 : Nat) (z391 : (Int)) : Option ((Int) ⊕ (Int)) :=
  (bif (decide (z391 < ((a0.Scans).length : Int))) then ((geto a0.Scans z391).bind fun x401 => (((number_Within a1 x401.1 x401.2).bind fun t411 => (some t411)).bind fun z416 => (bif z416 then (inrO (some z391)) else (some (Sum.inl (IntKind.i64.wrap (z391 + (1:Int)))))))) else (inrO (some ((-1):Int))))
noncomputable def locks_reads (a0 : api_Hold) (a1 : Nat) : Option (Bool) :=
  (((loopO (locks_reads_l0 a0 a1) (0:Int)).bind fun z335 => (some (decide (z335 ≥ (0:Int))))).bind fun z340 => (bif z340 then (some true) else (((loopO (locks_reads_l1 a0 a1) (0:Int)).bind fun z422 => (some (decide (z422 ≥ (0:Int))))).bind fun z427 => (some z427))))

noncomputable def locks_Meet_l1 (a0 : api_Hold) (a1 : api_Hold) (z246 : (Int)) : Option ((Int) ⊕ (Unit ⊕ (Bool))) :=
  (bif (decide (z246 < ((a0.Puts).length : Int))) then ((geto a0.Puts z246).bind fun x256 => ((locks_writes a1 x256 x256).bind fun t261 => (bif t261 then (inrO (inrO (some true))) else ((locks_reads a1 x256).bind fun t267 => (bif t267 then (inrO (inrO (some true))) else (some (Sum.inl (IntKind.i64.wrap (z246 + (1:Int)))))))))) else (inrO (some (Sum.inl ()))))
noncomputable def locks_Meet_l2 (a1 : api_Hold) (a0 : api_Hold) (z303 : (Int)) : Option ((Int) ⊕ (Bool)) :=
  (bif (decide (z303 < ((a1.Puts).length : Int))) then ((geto a1.Puts z303).bind fun x313 => ((locks_reads a0 x313).bind fun t318 => (bif t318 then (inrO (some true)) else (some (Sum.inl (IntKind.i64.wrap (z303 + (1:Int)))))))) else (inrO (some false)))
noncomputable def locks_Meet_j0 (a1 : api_Hold) (a0 : api_Hold) (_s : Unit) : Option (Bool) :=
  (loopO (locks_Meet_l2 a1 a0) (0:Int))
noncomputable def locks_Meet (a0 : api_Hold) (a1 : api_Hold) : Option (Bool) :=
  (joinO (loopO (locks_Meet_l1 a0 a1) (0:Int)) (locks_Meet_j0 a1 a0))

noncomputable def slices_Clone_float64_float64 (a0 : (List Nat)) : Option ((List Nat)) :=
  gd (room ([] : (List Nat)) a0) (some a0)

noncomputable def slices_Clone_2_float64_2_float64 (a0 : (List (Nat × Nat))) : Option ((List (Nat × Nat))) :=
  gd (room ([] : (List (Nat × Nat))) a0) (some a0)

noncomputable def slices_Clone_byte_byte (a0 : (List Int)) : Option ((List Int)) :=
  gd (room ([] : (List Int)) a0) (some a0)

noncomputable def cmp_isNaN_uint64 (a0 : Int) : Option (Bool) :=
  (some (a0 != a0))

noncomputable def cmp_Compare_uint64 (a0 : Int) (a1 : Int) : Option (Int) :=
  ((cmp_isNaN_uint64 a0).bind fun t329 => ((cmp_isNaN_uint64 a1).bind fun t334 => (bif t329 then (bif t334 then (some (0:Int)) else (some ((-1):Int))) else (bif t334 then (some (1:Int)) else (bif (decide (a0 < a1)) then (some ((-1):Int)) else (bif (decide (a0 > a1)) then (some (1:Int)) else (some (0:Int))))))))

noncomputable def cmp_Or_int_l0 (a0 : (List Int)) (z362 : (Int)) : Option ((Int) ⊕ (Int)) :=
  (bif (decide (z362 < ((a0).length : Int))) then ((geto a0 z362).bind fun x372 => (bif (x372 != (0:Int)) then (inrO (some x372)) else (some (Sum.inl (IntKind.i64.wrap (z362 + (1:Int))))))) else (inrO (some (0:Int))))
noncomputable def cmp_Or_int (a0 : (List Int)) : Option (Int) :=
  (loopO (cmp_Or_int_l0 a0) (0:Int))

noncomputable def locks_compare (a0 : api_Hold) (a1 : api_ID) : Option (Int) :=
  ((cmp_Compare_uint64 a0.ID.Session a1.Session).bind fun t350 => ((cmp_Compare_uint64 a0.ID.Seq a1.Seq).bind fun t355 => ((cmp_Or_int ([t350, t355])).bind fun t367 => (some t367))))

noncomputable def locks_Table_find_l1 (o0 : locks_Table) (a1 : api_ID) (s : (Int × Int)) : Option ((Int × Int) ⊕ (Int)) :=
  match s with | (z495, z496) => (bif (decide (z496 < z495)) then ((geto o0.l (IntKind.i64.wrap (iShr .u64 (IntKind.u64.wrap (IntKind.i64.wrap (z496 + z495))) (1:Int)))).bind fun x508 => ((locks_compare x508 a1).bind fun t528 => (bif (decide (t528 < (0:Int))) then (some (Sum.inl (z495, (IntKind.i64.wrap ((IntKind.i64.wrap (iShr .u64 (IntKind.u64.wrap (IntKind.i64.wrap (z496 + z495))) (1:Int))) + (1:Int)))))) else (some (Sum.inl ((IntKind.i64.wrap (iShr .u64 (IntKind.u64.wrap (IntKind.i64.wrap (z496 + z495))) (1:Int))), z496)))))) else (inrO (some z496)))
noncomputable def locks_Table_find_j0 (o0 : locks_Table) (a1 : api_ID) (z534 : (Int)) : Option (Int × Bool) :=
  (bif (decide (z534 < ((o0.l).length : Int))) then ((geto o0.l z534).bind fun x543 => ((locks_compare x543 a1).bind fun t563 => (some (z534, (t563 == (0:Int)))))) else (some (z534, false)))
noncomputable def locks_Table_find (a0 : (Option locks_Table)) (a1 : api_ID) : Option (Int × Bool) :=
  (match a0 with | none => (some ((0:Int), false)) | some o0 => ((((loopO (locks_Table_find_l1 o0 a1) (((o0.l).length : Int), (0:Int)))).bind (locks_Table_find_j0 o0 a1)).bind fun (z568, z569) => (some (z568, z569))))

noncomputable def slices_Insert_api_Hold_api_Hold (a0 : (List api_Hold)) (a1 : Int) (a2 : (List api_Hold)) : Option ((List api_Hold)) :=
  gd (insOK a0 a1 a2) (some (ins a0 a1 a2))

noncomputable def locks_Table_Take_l1 (o0 : locks_Table) (a1 : api_Hold) (z435 : (Int)) : Option ((Int) ⊕ (Unit ⊕ (Int × (Option locks_Table)))) :=
  (bif (decide (z435 < ((o0.l).length : Int))) then ((geto o0.l z435).bind fun x445 => (bif (!((x445.ID.Session == a1.ID.Session) && (x445.ID.Seq == a1.ID.Seq))) then ((locks_Meet x445 a1).bind fun t477 => (bif t477 then (inrO (inrO (some ((8:Int), (some o0))))) else (some (Sum.inl (IntKind.i64.wrap (z435 + (1:Int))))))) else (some (Sum.inl (IntKind.i64.wrap (z435 + (1:Int))))))) else (inrO (some (Sum.inl ()))))
noncomputable def locks_Table_Take_j0 (a1 : api_Hold) (o0 : locks_Table) (_s : Unit) : Option (Int × (Option locks_Table)) :=
  ((slices_Clone_float64_float64 a1.Gets).bind fun t488 => ((slices_Clone_2_float64_2_float64 a1.Scans).bind fun t495 => ((slices_Clone_float64_float64 a1.Puts).bind fun t502 => ((slices_Clone_byte_byte a1.Data).bind fun t509 => ((locks_Table_find (some o0) a1.ID).bind fun t522 => (bif t522.2 then ((geto o0.l t522.1).bind fun x532 => (some ((0:Int), (some ({ l := (o0.l.set t522.1.toNat ({ ID := a1.ID, Epoch := a1.Epoch, Gets := t488, Scans := t495, Puts := t502, Data := t509 } : api_Hold)) } : locks_Table))))) else ((slices_Insert_api_Hold_api_Hold o0.l t522.1 ([({ ID := a1.ID, Epoch := a1.Epoch, Gets := t488, Scans := t495, Puts := t502, Data := t509 } : api_Hold)])).bind fun t593 => (some ((0:Int), (some ({ l := t593 } : locks_Table)))))))))))
noncomputable def locks_Table_Take (a0 : (Option locks_Table)) (a1 : api_Hold) : Option (Int × (Option locks_Table)) :=
  (match a0 with | none => (some ((2:Int), none)) | some o0 => (joinO (loopO (locks_Table_Take_l1 o0 a1) (0:Int)) (locks_Table_Take_j0 a1 o0)))

noncomputable def locks_Table_Len (a0 : (Option locks_Table)) : Option (Int) :=
  (match a0 with | none => (some (0:Int)) | some o0 => (some ((o0.l).length : Int)))

noncomputable def law12_awake : Option (Bool) :=
  (locks_New.bind fun t139 => ((locks_Meet ({ ID := ({ Session := (1:Int), Seq := (1:Int) } : api_ID), Epoch := (0:Int), Gets := [], Scans := [], Puts := [(4607182418800017408:Nat)], Data := [] } : api_Hold) ({ ID := ({ Session := (2:Int), Seq := (1:Int) } : api_ID), Epoch := (0:Int), Gets := [], Scans := [((0:Nat), (4611686018427387904:Nat))], Puts := [], Data := [] } : api_Hold)).bind fun t156 => (bif t156 then ((locks_Table_Take (some t139) ({ ID := ({ Session := (1:Int), Seq := (1:Int) } : api_ID), Epoch := (0:Int), Gets := [], Scans := [], Puts := [(4607182418800017408:Nat)], Data := [] } : api_Hold)).bind fun t164 => (match t164.2 with | none => none | some y169 => (bif (t164.1 == (0:Int)) then ((locks_Table_Take (some y169) ({ ID := ({ Session := (2:Int), Seq := (1:Int) } : api_ID), Epoch := (0:Int), Gets := [], Scans := [((0:Nat), (4611686018427387904:Nat))], Puts := [], Data := [] } : api_Hold)).bind fun t174 => (match t174.2 with | none => none | some y179 => (bif (t174.1 == (8:Int)) then ((locks_Table_Len (some y179)).bind fun t182 => (some (t182 == (1:Int)))) else (some false)))) else (some false)))) else (some false))))

noncomputable def law12_short (a0 : api_Hold) : Option (Bool) :=
  (bif (decide (((a0.Gets).length : Int) ≤ (32:Int))) then (bif (decide (((a0.Scans).length : Int) ≤ (32:Int))) then (bif (decide (((a0.Puts).length : Int) ≤ (32:Int))) then (some (decide (((a0.Data).length : Int) ≤ (257:Int)))) else (some false)) else (some false)) else (some false))

noncomputable def octet_Writer_lay (a0 : octet_Writer) (a1 : (List Int)) : Option (octet_Writer) :=
  (gd (room a0.p a1) (some ({ p := (a0.p ++ a1) } : octet_Writer)))

noncomputable def octet_Writer_Num_l0 (a2 : Int) (a1 : Int) (s : (octet_Writer × Int)) : Option ((octet_Writer × Int) ⊕ (octet_Writer)) :=
  match s with | (z142, z143) => (bif (decide (z143 < a2)) then (gd (decide ((0:Int) ≤ (IntKind.i64.wrap ((8:Int) * z143)))) ((octet_Writer_lay z142 ([(IntKind.u8.wrap (iShr .u64 a1 (IntKind.i64.wrap ((8:Int) * z143))))])).bind fun t161 => (some (Sum.inl (t161, (IntKind.i64.wrap (z143 + (1:Int)))))))) else (inrO (some z142)))
noncomputable def octet_Writer_Num (a0 : octet_Writer) (a1 : Int) (a2 : Int) : Option (octet_Writer) :=
  (loopO (octet_Writer_Num_l0 a2 a1) (a0, (0:Int)))

noncomputable def octet_Writer_Bytes (a0 : octet_Writer) (a1 : (List Int)) : Option (octet_Writer) :=
  ((octet_Writer_Num a0 (IntKind.u64.wrap ((a1).length : Int)) (4:Int)).bind fun t349 => ((octet_Writer_lay t349 a1).bind fun t354 => (some t354)))

noncomputable def locks_Lay_l1 (a1 : api_Hold) (s : (octet_Writer × Int)) : Option ((octet_Writer × Int) ⊕ (octet_Writer)) :=
  match s with | (z404, z405) => (bif (decide (z405 < ((a1.Gets).length : Int))) then ((geto a1.Gets z405).bind fun x415 => ((number_Rank x415).bind fun t420 => ((octet_Writer_Num z404 t420 (8:Int)).bind fun t425 => (some (Sum.inl (t425, (IntKind.i64.wrap (z405 + (1:Int))))))))) else (inrO (some z404)))
noncomputable def locks_Lay_l3 (a1 : api_Hold) (s : (octet_Writer × Int)) : Option ((octet_Writer × Int) ⊕ (octet_Writer)) :=
  match s with | (z509, z510) => (bif (decide (z510 < ((a1.Scans).length : Int))) then ((geto a1.Scans z510).bind fun x520 => ((number_Rank x520.1).bind fun t532 => ((octet_Writer_Num z509 t532 (8:Int)).bind fun t537 => ((number_Rank x520.2).bind fun t542 => ((octet_Writer_Num t537 t542 (8:Int)).bind fun t547 => (some (Sum.inl (t547, (IntKind.i64.wrap (z510 + (1:Int))))))))))) else (inrO (some z509)))
noncomputable def locks_Lay_l5 (a1 : api_Hold) (s : (octet_Writer × Int)) : Option ((octet_Writer × Int) ⊕ (octet_Writer)) :=
  match s with | (z597, z598) => (bif (decide (z598 < ((a1.Puts).length : Int))) then ((geto a1.Puts z598).bind fun x608 => ((number_Rank x608).bind fun t613 => ((octet_Writer_Num z597 t613 (8:Int)).bind fun t618 => (some (Sum.inl (t618, (IntKind.i64.wrap (z598 + (1:Int))))))))) else (inrO (some z597)))
noncomputable def locks_Lay_j4 (a1 : api_Hold) (z623 : (octet_Writer)) : Option (octet_Writer) :=
  ((octet_Writer_Bytes z623 a1.Data).bind fun t629 => (some t629))
noncomputable def locks_Lay_j2 (a1 : api_Hold) (z552 : (octet_Writer)) : Option (octet_Writer) :=
  ((octet_Writer_Num z552 (IntKind.u64.wrap ((a1.Puts).length : Int)) (4:Int)).bind fun t558 => (((loopO (locks_Lay_l5 a1) (t558, (0:Int)))).bind (locks_Lay_j4 a1)))
noncomputable def locks_Lay_j0 (a1 : api_Hold) (z430 : (octet_Writer)) : Option (octet_Writer) :=
  ((octet_Writer_Num z430 (IntKind.u64.wrap ((a1.Scans).length : Int)) (4:Int)).bind fun t436 => (((loopO (locks_Lay_l3 a1) (t436, (0:Int)))).bind (locks_Lay_j2 a1)))
noncomputable def locks_Lay (a0 : octet_Writer) (a1 : api_Hold) : Option (octet_Writer) :=
  ((octet_Writer_Num a0 a1.ID.Session (8:Int)).bind fun t350 => ((octet_Writer_Num t350 a1.ID.Seq (8:Int)).bind fun t355 => ((octet_Writer_Num t355 a1.Epoch (8:Int)).bind fun t360 => ((octet_Writer_Num t360 (IntKind.u64.wrap ((a1.Gets).length : Int)) (4:Int)).bind fun t365 => (((loopO (locks_Lay_l1 a1) (t365, (0:Int)))).bind (locks_Lay_j0 a1))))))

noncomputable def octet_Writer_Done (a0 : octet_Writer) : Option ((List Int)) :=
  (some a0.p)

noncomputable def octet_Read (a0 : (List Int)) : Option (octet_Reader) :=
  (some ({ p := a0, bad := false } : octet_Reader))

noncomputable def octet_Reader_spoil (a0 : octet_Reader) : Option (octet_Reader) :=
  (some ({ p := a0.p, bad := true } : octet_Reader))

noncomputable def octet_Reader_Num_l1 (a1 : Int) (a0 : octet_Reader) (s : (Int × Int)) : Option ((Int × Int) ⊕ (Int)) :=
  match s with | (z217, z218) => (bif (decide (z217 < (if (8:Int) < a1 then (8:Int) else a1))) then ((geto a0.p z217).bind fun x233 => (gd (decide ((0:Int) ≤ (IntKind.i64.wrap ((8:Int) * z217)))) (some (Sum.inl ((IntKind.i64.wrap (z217 + (1:Int))), (bOr .u64 z218 (iShl .u64 (IntKind.u64.wrap x233) (IntKind.i64.wrap ((8:Int) * z217))))))))) else (inrO (some z218)))
noncomputable def octet_Reader_Num_j0 (a0 : octet_Reader) (a1 : Int) (z239 : (Int)) : Option (Int × octet_Reader) :=
  (gd (fits a0.p a1 (((a0.p).length : Nat) : Int)) (some (z239, ({ p := (subs a0.p a1 (((a0.p).length : Nat) : Int)), bad := a0.bad } : octet_Reader))))
noncomputable def octet_Reader_Num (a0 : octet_Reader) (a1 : Int) : Option (Int × octet_Reader) :=
  (bif a0.bad then ((octet_Reader_spoil a0).bind fun t174 => (some ((0:Int), t174))) else (bif (decide (a1 < (0:Int))) then ((octet_Reader_spoil a0).bind fun t180 => (some ((0:Int), t180))) else (bif (decide (((a0.p).length : Int) < a1)) then ((octet_Reader_spoil a0).bind fun t186 => (some ((0:Int), t186))) else (((loopO (octet_Reader_Num_l1 a1 a0) ((0:Int), (0:Int)))).bind (octet_Reader_Num_j0 a0 a1)))))

noncomputable def octet_Reader_Count (a0 : octet_Reader) (a1 : Int) : Option (Int × octet_Reader) :=
  ((octet_Reader_Num a0 (4:Int)).bind fun t127 => (bif (decide (a1 < (0:Int))) then ((octet_Reader_spoil t127.2).bind fun t133 => (some ((0:Int), t133))) else (bif (decide (t127.1 > (IntKind.u64.wrap a1))) then ((octet_Reader_spoil t127.2).bind fun t139 => (some ((0:Int), t139))) else (some ((IntKind.i64.wrap t127.1), t127.2)))))

noncomputable def number_Back (a0 : Int) : Option (Nat) :=
  (bif ((iShr .u64 a0 (63:Int)) == (1:Int)) then (some (Int.toNat (bAndNot .u64 a0 (9223372036854775808:Int)))) else (some (Int.toNat (bXor .u64 ((18446744073709551615):Int) a0))))

noncomputable def octet_Reader_Bytes (a0 : octet_Reader) (a1 : Int) : Option ((List Int) × octet_Reader) :=
  ((octet_Reader_Num a0 (4:Int)).bind fun t581 => (bif t581.2.bad then ((octet_Reader_spoil t581.2).bind fun t591 => (some ([], t591))) else (bif (decide (a1 < (0:Int))) then ((octet_Reader_spoil t581.2).bind fun t598 => (some ([], t598))) else (bif (decide (t581.1 > (IntKind.u64.wrap a1))) then ((octet_Reader_spoil t581.2).bind fun t605 => (some ([], t605))) else (bif (decide (t581.1 > (IntKind.u64.wrap ((t581.2.p).length : Int)))) then ((octet_Reader_spoil t581.2).bind fun t612 => (some ([], t612))) else (gd (fits t581.2.p (0:Int) t581.1) (gd (room ([] : List Int) (subs t581.2.p (0:Int) t581.1)) (gd (fits t581.2.p t581.1 (((t581.2.p).length : Nat) : Int)) (some ((subs t581.2.p (0:Int) t581.1), ({ p := (subs t581.2.p t581.1 (((t581.2.p).length : Nat) : Int)), bad := t581.2.bad } : octet_Reader)))))))))))

noncomputable def locks_Read_l1 (t571 : (Int × octet_Reader)) (s : ((List Nat) × octet_Reader × Int)) : Option (((List Nat) × octet_Reader × Int) ⊕ (octet_Reader × (List Nat))) :=
  match s with | (z650, z653, z654) => (bif (decide (z654 < t571.1)) then ((octet_Reader_Num z653 (8:Int)).bind fun t664 => ((number_Back t664.1).bind fun t669 => (gd (room z650 ([t669])) (some (Sum.inl ((z650 ++ ([t669])), t664.2, (IntKind.i64.wrap (z654 + (1:Int))))))))) else (inrO (some (z653, z650))))
noncomputable def locks_Read_l3 (t695 : (Int × octet_Reader)) (s : ((List (Nat × Nat)) × octet_Reader × Int)) : Option (((List (Nat × Nat)) × octet_Reader × Int) ⊕ (octet_Reader × (List (Nat × Nat)))) :=
  match s with | (z804, z807, z808) => (bif (decide (z808 < t695.1)) then ((octet_Reader_Num z807 (8:Int)).bind fun t818 => ((number_Back t818.1).bind fun t823 => ((octet_Reader_Num t818.2 (8:Int)).bind fun t828 => ((number_Back t828.1).bind fun t833 => (gd (room z804 ([(t823, t833)])) (some (Sum.inl ((z804 ++ ([(t823, t833)])), t828.2, (IntKind.i64.wrap (z808 + (1:Int))))))))))) else (inrO (some (z807, z804))))
noncomputable def locks_Read_l5 (t859 : (Int × octet_Reader)) (s : ((List Nat) × octet_Reader × Int)) : Option (((List Nat) × octet_Reader × Int) ⊕ (octet_Reader × (List Nat))) :=
  match s with | (z938, z941, z942) => (bif (decide (z942 < t859.1)) then ((octet_Reader_Num z941 (8:Int)).bind fun t952 => ((number_Back t952.1).bind fun t957 => (gd (room z938 ([t957])) (some (Sum.inl ((z938 ++ ([t957])), t952.2, (IntKind.i64.wrap (z942 + (1:Int))))))))) else (inrO (some (z941, z938))))
noncomputable def locks_Read_j4 (t541 : (Int × octet_Reader)) (t546 : (Int × octet_Reader)) (t551 : (Int × octet_Reader)) (z689 : (List Nat)) (z853 : (List (Nat × Nat))) (s : (octet_Reader × (List Nat))) : Option (api_Hold × octet_Reader) :=
  match s with | (z974, z977) => ((octet_Reader_Bytes z974 (257:Int)).bind fun t983 => (some (({ ID := ({ Session := t541.1, Seq := t546.1 } : api_ID), Epoch := t551.1, Gets := z689, Scans := z853, Puts := z977, Data := t983.1 } : api_Hold), t983.2)))
noncomputable def locks_Read_j2 (t541 : (Int × octet_Reader)) (t546 : (Int × octet_Reader)) (t551 : (Int × octet_Reader)) (z689 : (List Nat)) (s : (octet_Reader × (List (Nat × Nat)))) : Option (api_Hold × octet_Reader) :=
  match s with | (z850, z853) => ((((octet_Reader_Count z850 (32:Int)).bind fun t859 => (loopO (locks_Read_l5 t859) ([], t859.2, (0:Int))))).bind (locks_Read_j4 t541 t546 t551 z689 z853))
noncomputable def locks_Read_j0 (t541 : (Int × octet_Reader)) (t546 : (Int × octet_Reader)) (t551 : (Int × octet_Reader)) (s : (octet_Reader × (List Nat))) : Option (api_Hold × octet_Reader) :=
  match s with | (z686, z689) => ((((octet_Reader_Count z686 (32:Int)).bind fun t695 => (loopO (locks_Read_l3 t695) ([], t695.2, (0:Int))))).bind (locks_Read_j2 t541 t546 t551 z689))
noncomputable def locks_Read (a0 : octet_Reader) : Option (api_Hold × octet_Reader) :=
  ((octet_Reader_Num a0 (8:Int)).bind fun t541 => ((octet_Reader_Num t541.2 (8:Int)).bind fun t546 => ((octet_Reader_Num t546.2 (8:Int)).bind fun t551 => ((((octet_Reader_Count t551.2 (32:Int)).bind fun t571 => (loopO (locks_Read_l1 t571) ([], t571.2, (0:Int))))).bind (locks_Read_j0 t541 t546 t551)))))

noncomputable def ref02_Num_l0 (a2 : Int) (s : (Int × (List Int) × Int)) : Option ((Int × (List Int) × Int) ⊕ ((List Int))) :=
  match s with | (z204, z205, z208) => (bif (decide (z208 < a2)) then (gd (room z205 ([(IntKind.u8.wrap (bAnd .u64 z204 (255:Int)))])) (some (Sum.inl ((iShr .u64 z204 (8:Int)), (z205 ++ ([(IntKind.u8.wrap (bAnd .u64 z204 (255:Int)))])), (IntKind.i64.wrap (z208 + (1:Int))))))) else (inrO (some z205)))
noncomputable def ref02_Num (a0 : (List Int)) (a1 : Int) (a2 : Int) : Option ((List Int)) :=
  (gd (room ([] : List Int) a0) (loopO (ref02_Num_l0 a2) (a1, a0, (0:Int))))

noncomputable def ref12_ID (a0 : (List Int)) (a1 : api_ID) : Option ((List Int)) :=
  ((ref02_Num a0 a1.Session (8:Int)).bind fun t133 => ((ref02_Num t133 a1.Seq (8:Int)).bind fun t142 => (some t142)))

noncomputable def ref01_Rank (a0 : Nat) : Option (Int) :=
  (bif (fNe a0 a0) then (some (18446744073709551615:Int)) else (bif (decide ((Int.ofNat a0) ≥ (9223372036854775808:Int))) then (some (IntKind.u64.wrap ((18446744073709551615:Int) - (Int.ofNat a0)))) else (some (IntKind.u64.wrap ((Int.ofNat a0) + (9223372036854775808:Int))))))

noncomputable def ref02_Bytes (a0 : (List Int)) (a1 : (List Int)) : Option ((List Int)) :=
  ((ref02_Num a0 (IntKind.u64.wrap ((a1).length : Int)) (4:Int)).bind fun t458 => (gd (room t458 a1) (some (t458 ++ a1))))

noncomputable def ref12_Hold_l1 (a1 : api_Hold) (s : ((List Int) × Int)) : Option (((List Int) × Int) ⊕ ((List Int))) :=
  match s with | (z529, z532) => (bif (decide (z532 < ((a1.Gets).length : Int))) then ((geto a1.Gets z532).bind fun x542 => ((ref01_Rank x542).bind fun t547 => ((ref02_Num z529 t547 (8:Int)).bind fun t554 => (some (Sum.inl (t554, (IntKind.i64.wrap (z532 + (1:Int))))))))) else (inrO (some z529)))
noncomputable def ref12_Hold_l3 (a1 : api_Hold) (s : ((List Int) × Int)) : Option (((List Int) × Int) ⊕ ((List Int))) :=
  match s with | (z650, z653) => (bif (decide (z653 < ((a1.Scans).length : Int))) then ((geto a1.Scans z653).bind fun x663 => ((ref01_Rank x663.1).bind fun t668 => ((ref02_Num z650 t668 (8:Int)).bind fun t675 => ((ref01_Rank x663.2).bind fun t682 => ((ref02_Num t675 t682 (8:Int)).bind fun t689 => (some (Sum.inl (t689, (IntKind.i64.wrap (z653 + (1:Int))))))))))) else (inrO (some z650)))
noncomputable def ref12_Hold_l5 (a1 : api_Hold) (s : ((List Int) × Int)) : Option (((List Int) × Int) ⊕ ((List Int))) :=
  match s with | (z757, z760) => (bif (decide (z760 < ((a1.Puts).length : Int))) then ((geto a1.Puts z760).bind fun x770 => ((ref01_Rank x770).bind fun t775 => ((ref02_Num z757 t775 (8:Int)).bind fun t782 => (some (Sum.inl (t782, (IntKind.i64.wrap (z760 + (1:Int))))))))) else (inrO (some z757)))
noncomputable def ref12_Hold_j4 (a1 : api_Hold) (z791 : ((List Int))) : Option ((List Int)) :=
  ((ref02_Bytes z791 a1.Data).bind fun t799 => (some t799))
noncomputable def ref12_Hold_j2 (a1 : api_Hold) (z698 : ((List Int))) : Option ((List Int)) :=
  ((ref02_Num z698 (IntKind.u64.wrap ((a1.Puts).length : Int)) (4:Int)).bind fun t706 => (((loopO (ref12_Hold_l5 a1) (t706, (0:Int)))).bind (ref12_Hold_j4 a1)))
noncomputable def ref12_Hold_j0 (a1 : api_Hold) (z563 : ((List Int))) : Option ((List Int)) :=
  ((ref02_Num z563 (IntKind.u64.wrap ((a1.Scans).length : Int)) (4:Int)).bind fun t571 => (((loopO (ref12_Hold_l3 a1) (t571, (0:Int)))).bind (ref12_Hold_j2 a1)))
noncomputable def ref12_Hold (a0 : (List Int)) (a1 : api_Hold) : Option ((List Int)) :=
  ((ref12_ID a0 a1.ID).bind fun t460 => ((ref02_Num t460 a1.Epoch (8:Int)).bind fun t469 => ((ref02_Num t469 (IntKind.u64.wrap ((a1.Gets).length : Int)) (4:Int)).bind fun t478 => (((loopO (ref12_Hold_l1 a1) (t478, (0:Int)))).bind (ref12_Hold_j0 a1)))))

noncomputable def octet_Reader_Bad (a0 : octet_Reader) : Option (Bool) :=
  (some a0.bad)

noncomputable def octet_Reader_End (a0 : octet_Reader) : Option (Bool) :=
  ((octet_Reader_Bad a0).bind fun t104 => (bif (!t104) then (some (((a0.p).length : Int) == (0:Int))) else (some false)))

noncomputable def math_Signbit (a0 : Nat) : Option (Bool) :=
  (some (decide ((IntKind.i64.wrap (Int.ofNat a0)) < (0:Int))))

noncomputable def ref01_Ahead_j0 (a0 : Nat) (a1 : Nat) (_s : Unit) : Option (Bool) :=
  (some (fLt a0 a1))
noncomputable def ref01_Ahead (a0 : Nat) (a1 : Nat) : Option (Bool) :=
  (bif (fNe a0 a0) then (some false) else (bif (fNe a1 a1) then (some true) else (joinO (bif (fEq a0 (0:Nat)) then (bif (fEq a1 (0:Nat)) then ((math_Signbit a0).bind fun t141 => (bif t141 then ((math_Signbit a1).bind fun t147 => (inrO (some (!t147)))) else (inrO (some false)))) else (some (Sum.inl ()))) else (some (Sum.inl ()))) (ref01_Ahead_j0 a0 a1))))

noncomputable def ref01_Same (a0 : Nat) (a1 : Nat) : Option (Bool) :=
  ((ref01_Ahead a0 a1).bind fun t128 => (bif (!t128) then ((ref01_Ahead a1 a0).bind fun t134 => (some (!t134))) else (some false)))

noncomputable def ref11_SameHold_l1 (a0 : api_Hold) (a1 : api_Hold) (z386 : (Int)) : Option ((Int) ⊕ (Unit ⊕ (Bool))) :=
  (bif (decide (z386 < ((a0.Gets).length : Int))) then ((geto a0.Gets z386).bind fun x396 => ((geto a1.Gets z386).bind fun x401 => ((ref01_Same x396 x401).bind fun t406 => (bif (!t406) then (inrO (inrO (some false))) else (some (Sum.inl (IntKind.i64.wrap (z386 + (1:Int))))))))) else (inrO (some (Sum.inl ()))))
noncomputable def ref11_SameHold_l3 (a0 : api_Hold) (a1 : api_Hold) (z464 : (Int)) : Option ((Int) ⊕ (Unit ⊕ (Bool))) :=
  (bif (decide (z464 < ((a0.Scans).length : Int))) then ((geto a0.Scans z464).bind fun x474 => ((geto a1.Scans z464).bind fun x479 => ((ref01_Same x474.1 x479.1).bind fun t484 => (bif (!t484) then (inrO (inrO (some false))) else ((ref01_Same x474.2 x479.2).bind fun t490 => (bif (!t490) then (inrO (inrO (some false))) else (some (Sum.inl (IntKind.i64.wrap (z464 + (1:Int))))))))))) else (inrO (some (Sum.inl ()))))
noncomputable def ref11_SameHold_l4 (a0 : api_Hold) (a1 : api_Hold) (z536 : (Int)) : Option ((Int) ⊕ (Bool)) :=
  (bif (decide (z536 < ((a0.Puts).length : Int))) then ((geto a0.Puts z536).bind fun x546 => ((geto a1.Puts z536).bind fun x551 => ((ref01_Same x546 x551).bind fun t556 => (bif (!t556) then (inrO (some false)) else (some (Sum.inl (IntKind.i64.wrap (z536 + (1:Int))))))))) else (inrO (some true)))
noncomputable def ref11_SameHold_j2 (a0 : api_Hold) (a1 : api_Hold) (_s : Unit) : Option (Bool) :=
  (loopO (ref11_SameHold_l4 a0 a1) (0:Int))
noncomputable def ref11_SameHold_j0 (a0 : api_Hold) (a1 : api_Hold) (_s : Unit) : Option (Bool) :=
  (joinO (loopO (ref11_SameHold_l3 a0 a1) (0:Int)) (ref11_SameHold_j2 a0 a1))
noncomputable def ref11_SameHold (a0 : api_Hold) (a1 : api_Hold) : Option (Bool) :=
  (bif (!((a0.ID.Session == a1.ID.Session) && (a0.ID.Seq == a1.ID.Seq))) then (some false) else (bif (a0.Epoch != a1.Epoch) then (some false) else (bif (((a0.Gets).length : Int) != ((a1.Gets).length : Int)) then (some false) else (bif (((a0.Scans).length : Int) != ((a1.Scans).length : Int)) then (some false) else (bif (((a0.Puts).length : Int) != ((a1.Puts).length : Int)) then (some false) else (bif (!(sEq (toStr a0.Data) (toStr a1.Data))) then (some false) else (joinO (loopO (ref11_SameHold_l1 a0 a1) (0:Int)) (ref11_SameHold_j0 a0 a1))))))))

noncomputable def ref12_Tape_Next (a0 : ref12_Tape) (a1 : Int) : Option (Int × ref12_Tape) :=
  (bif (decide (a0.I ≥ ((a0.L).length : Int))) then (some ((0:Int), a0)) else ((geto a0.L (IntKind.i64.wrap ((IntKind.i64.wrap (a0.I + (1:Int))) - (1:Int)))).bind fun x181 => (gd (!(a1 == (0:Int))) (some ((Int.tmod (IntKind.i64.wrap x181) a1), ({ L := a0.L, I := (IntKind.i64.wrap (a0.I + (1:Int))) } : ref12_Tape))))))

noncomputable def ref12_Tape_Of (a0 : ref12_Tape) : Option (api_ID × ref12_Tape) :=
  ((ref12_Tape_Next a0 (4:Int)).bind fun t177 => ((ref12_Tape_Next t177.2 (4:Int)).bind fun t182 => (some (({ Session := (IntKind.u64.wrap t177.1), Seq := (IntKind.u64.wrap (IntKind.i64.wrap ((1:Int) + t182.1))) } : api_ID), t182.2))))

noncomputable def ref12_small (a0 : Int) : Option (Nat) :=
  ((geto ([(0:Nat), (4607182418800017408:Nat), (13830554455654793216:Nat), (4612811918334230528:Nat), (9094988921128908188:Nat), (18318360957983683996:Nat), (4602678819172646912:Nat), (4613937818241073152:Nat)]) (Int.tmod a0 (8:Int))).bind fun x205 => (some x205))

noncomputable def ref12_Tape_Float (a0 : ref12_Tape) : Option (Nat × ref12_Tape) :=
  ((ref12_Tape_Next a0 (8:Int)).bind fun t196 => ((ref12_small (IntKind.u8.wrap t196.1)).bind fun t201 => (some (t201, t196.2))))

noncomputable def ref12_Tape_Val_l0 (t609 : (Int × ref12_Tape)) (s : (ref12_Tape × (List Int) × Int)) : Option ((ref12_Tape × (List Int) × Int) ⊕ ((List Int) × ref12_Tape)) :=
  match s with | (z667, z668, z671) => (bif (decide (z671 < t609.1)) then ((ref12_Tape_Next z667 (26:Int)).bind fun t681 => (gd (room z668 ([(IntKind.u8.wrap (IntKind.i64.wrap ((97:Int) + t681.1)))])) (some (Sum.inl (t681.2, (z668 ++ ([(IntKind.u8.wrap (IntKind.i64.wrap ((97:Int) + t681.1)))])), (IntKind.i64.wrap (z671 + (1:Int)))))))) else (inrO (some (z668, z667))))
noncomputable def ref12_Tape_Val (a0 : ref12_Tape) : Option ((List Int) × ref12_Tape) :=
  ((ref12_Tape_Next a0 (4:Int)).bind fun t609 => (loopO (ref12_Tape_Val_l0 t609) (t609.2, [], (0:Int))))

noncomputable def ref12_Tape_Hold_l1 (t564 : (Int × ref12_Tape)) (s : ((List Nat) × ref12_Tape × Int)) : Option (((List Nat) × ref12_Tape × Int) ⊕ (ref12_Tape × (List Nat))) :=
  match s with | (z628, z631, z632) => (bif (decide (z632 < t564.1)) then ((ref12_Tape_Float z631).bind fun t642 => (gd (room z628 ([t642.1])) (some (Sum.inl ((z628 ++ ([t642.1])), t642.2, (IntKind.i64.wrap (z632 + (1:Int)))))))) else (inrO (some (z631, z628))))
noncomputable def ref12_Tape_Hold_l3 (t668 : (Int × ref12_Tape)) (s : ((List (Nat × Nat)) × ref12_Tape × Int)) : Option (((List (Nat × Nat)) × ref12_Tape × Int) ⊕ (ref12_Tape × (List (Nat × Nat)))) :=
  match s with | (z747, z750, z751) => (bif (decide (z751 < (IntKind.i64.wrap (Int.tdiv t668.1 (2:Int))))) then ((ref12_Tape_Float z750).bind fun t761 => ((ref12_Tape_Float t761.2).bind fun t766 => (gd (room z747 ([(t761.1, t766.1)])) (some (Sum.inl ((z747 ++ ([(t761.1, t766.1)])), t766.2, (IntKind.i64.wrap (z751 + (1:Int))))))))) else (inrO (some (z750, z747))))
noncomputable def ref12_Tape_Hold_l5 (t792 : (Int × ref12_Tape)) (s : ((List Nat) × ref12_Tape × Int)) : Option (((List Nat) × ref12_Tape × Int) ⊕ (ref12_Tape × (List Nat))) :=
  match s with | (z856, z859, z860) => (bif (decide (z860 < t792.1)) then ((ref12_Tape_Float z859).bind fun t870 => (gd (room z856 ([t870.1])) (some (Sum.inl ((z856 ++ ([t870.1])), t870.2, (IntKind.i64.wrap (z860 + (1:Int)))))))) else (inrO (some (z859, z856))))
noncomputable def ref12_Tape_Hold_j4 (t539 : (api_ID × ref12_Tape)) (t544 : (Int × ref12_Tape)) (z662 : (List Nat)) (z786 : (List (Nat × Nat))) (s : (ref12_Tape × (List Nat))) : Option (api_Hold × ref12_Tape) :=
  match s with | (z887, z890) => ((ref12_Tape_Next z887 (4:Int)).bind fun t896 => (bif (t896.1 == (0:Int)) then ((ref12_Tape_Val t896.2).bind fun t902 => (some (({ ID := t539.1, Epoch := (IntKind.u64.wrap (IntKind.i64.wrap ((1:Int) + t544.1))), Gets := z662, Scans := z786, Puts := z890, Data := t902.1 } : api_Hold), t902.2))) else (some (({ ID := t539.1, Epoch := (IntKind.u64.wrap (IntKind.i64.wrap ((1:Int) + t544.1))), Gets := z662, Scans := z786, Puts := z890, Data := [] } : api_Hold), t896.2))))
noncomputable def ref12_Tape_Hold_j2 (t539 : (api_ID × ref12_Tape)) (t544 : (Int × ref12_Tape)) (z662 : (List Nat)) (s : (ref12_Tape × (List (Nat × Nat)))) : Option (api_Hold × ref12_Tape) :=
  match s with | (z783, z786) => ((ref12_Tape_Next z783 (3:Int)).bind fun t792 => (((loopO (ref12_Tape_Hold_l5 t792) ([], t792.2, (0:Int)))).bind (ref12_Tape_Hold_j4 t539 t544 z662 z786)))
noncomputable def ref12_Tape_Hold_j0 (t539 : (api_ID × ref12_Tape)) (t544 : (Int × ref12_Tape)) (s : (ref12_Tape × (List Nat))) : Option (api_Hold × ref12_Tape) :=
  match s with | (z659, z662) => ((ref12_Tape_Next z659 (3:Int)).bind fun t668 => (((loopO (ref12_Tape_Hold_l3 t668) ([], t668.2, (0:Int)))).bind (ref12_Tape_Hold_j2 t539 t544 z662)))
noncomputable def ref12_Tape_Hold (a0 : ref12_Tape) : Option (api_Hold × ref12_Tape) :=
  ((ref12_Tape_Of a0).bind fun t539 => ((ref12_Tape_Next t539.2 (4:Int)).bind fun t544 => ((ref12_Tape_Next t544.2 (3:Int)).bind fun t564 => (((loopO (ref12_Tape_Hold_l1 t564) ([], t564.2, (0:Int)))).bind (ref12_Tape_Hold_j0 t539 t544)))))

noncomputable def locks_Table_Encode_l0 (t445 : (Int)) (t439 : (octet_Writer)) (_s : Unit) : Option (Unit ⊕ ((List Int))) :=
  (bif (decide ((0:Int) < t445)) then none else (inrO ((octet_Writer_Done t439).bind fun t460 => (some t460))))
noncomputable def locks_Table_Encode_l1 (t485 : (Int)) (o0 : locks_Table) (s : (octet_Writer × Int)) : Option ((octet_Writer × Int) ⊕ ((List Int))) :=
  match s with | (z550, z551) => (bif (decide (z551 < t485)) then ((geto o0.l z551).bind fun x564 => ((locks_Lay z550 x564).bind fun t584 => (some (Sum.inl (t584, (IntKind.i64.wrap (z551 + (1:Int)))))))) else (inrO ((octet_Writer_Done z550).bind fun t589 => (some t589))))
noncomputable def locks_Table_Encode (a0 : (Option locks_Table)) : Option ((List Int)) :=
  (match a0 with | none => ((locks_Table_Len none).bind fun t434 => ((octet_Writer_Num ({ p := [] } : octet_Writer) (IntKind.u64.wrap t434) (4:Int)).bind fun t439 => ((locks_Table_Len none).bind fun t445 => (loopO (locks_Table_Encode_l0 t445 t439) ())))) | some o0 => ((locks_Table_Len (some o0)).bind fun t475 => ((octet_Writer_Num ({ p := [] } : octet_Writer) (IntKind.u64.wrap t475) (4:Int)).bind fun t480 => ((locks_Table_Len (some o0)).bind fun t485 => (loopO (locks_Table_Encode_l1 t485 o0) (t480, (0:Int)))))))

noncomputable def octet_Reader_Left (a0 : octet_Reader) : Option (Int) :=
  ((octet_Reader_Bad a0).bind fun t286 => (bif t286 then (some (0:Int)) else (some ((a0.p).length : Int))))

noncomputable def slices_Equal_byte_byte_l0 (a0 : (List Int)) (a1 : (List Int)) (z677 : (Int)) : Option ((Int) ⊕ (Bool)) :=
  (bif (decide (z677 < ((a0).length : Int))) then ((geto a0 z677).bind fun x687 => ((geto a1 z677).bind fun x692 => (bif (x687 != x692) then (inrO (some false)) else (some (Sum.inl (IntKind.i64.wrap (z677 + (1:Int)))))))) else (inrO (some true)))
noncomputable def slices_Equal_byte_byte (a0 : (List Int)) (a1 : (List Int)) : Option (Bool) :=
  (bif (((a0).length : Int) != ((a1).length : Int)) then (some false) else (loopO (slices_Equal_byte_byte_l0 a0 a1) (0:Int)))

noncomputable def locks_Decode_j2 (z823 : locks_Table) (t835 : (api_Hold × octet_Reader)) (z824 : Int) (_s : Unit) : Option ((octet_Reader × locks_Table × Int) ⊕ ((octet_Reader × locks_Table) ⊕ (Option locks_Table × Int))) :=
  (gd (room z823.l ([t835.1])) (some (Sum.inl (t835.2, ({ l := (z823.l ++ ([t835.1])) } : locks_Table), (IntKind.i64.wrap (z824 + (1:Int)))))))
noncomputable def locks_Decode_l1 (t628 : (Int × octet_Reader)) (s : (octet_Reader × locks_Table × Int)) : Option ((octet_Reader × locks_Table × Int) ⊕ ((octet_Reader × locks_Table) ⊕ (Option locks_Table × Int))) :=
  match s with | (z822, z823, z824) => (bif (decide (z824 < t628.1)) then ((locks_Read z822).bind fun t835 => (joinO (bif (decide (z824 > (0:Int))) then ((geto z823.l (IntKind.i64.wrap (z824 - (1:Int)))).bind fun x865 => ((locks_compare x865 t835.1.ID).bind fun t885 => (bif (decide (t885 ≥ (0:Int))) then (inrO (inrO (inrO (some (none, (5:Int)))))) else (some (Sum.inl ()))))) else (some (Sum.inl ()))) (locks_Decode_j2 z823 t835 z824))) else (inrO (some (Sum.inl (z822, z823)))))
noncomputable def locks_Decode_j0 (a0 : (List Int)) (s : (octet_Reader × locks_Table)) : Option (Option locks_Table × Int) :=
  match s with | (z927, z928) => ((octet_Reader_End z927).bind fun t936 => (bif (!t936) then (some (none, (5:Int))) else ((locks_Table_Encode (some z928)).bind fun t943 => ((slices_Equal_byte_byte t943 a0).bind fun t952 => (bif (!t952) then (some (none, (5:Int))) else (some ((some z928), (0:Int))))))))
noncomputable def locks_Decode (a0 : (List Int)) : Option (Option locks_Table × Int) :=
  ((octet_Read a0).bind fun t609 => (locks_New.bind fun t616 => (joinO ((octet_Reader_Left t609).bind fun t623 => ((octet_Reader_Count t609 t623).bind fun t628 => (loopO (locks_Decode_l1 t628) (t628.2, t616, (0:Int))))) (locks_Decode_j0 a0))))

noncomputable def locks_Table_All_l0 (t452 : (Int)) (_s : Unit) : Option (Unit ⊕ ((List api_ID))) :=
  (bif (decide ((0:Int) < t452)) then none else (inrO (some ([]))))
noncomputable def locks_Table_All_l1 (t469 : (Int)) (o0 : locks_Table) (s : ((List api_ID) × Int)) : Option (((List api_ID) × Int) ⊕ ((List api_ID))) :=
  match s with | (z580, z583) => (bif (decide (z583 < t469)) then ((geto o0.l z583).bind fun x596 => (gd (room z580 ([x596.ID])) (some (Sum.inl ((z580 ++ ([x596.ID])), (IntKind.i64.wrap (z583 + (1:Int)))))))) else (inrO (some z580)))
noncomputable def locks_Table_All (a0 : (Option locks_Table)) : Option ((List api_ID)) :=
  (match a0 with | none => ((locks_Table_Len none).bind fun t452 => (loopO (locks_Table_All_l0 t452) ())) | some o0 => ((locks_Table_Len (some o0)).bind fun t469 => (loopO (locks_Table_All_l1 t469 o0) ([], (0:Int)))))

noncomputable def locks_Table_Get (a0 : (Option locks_Table)) (a1 : api_ID) : Option (api_Hold × Bool) :=
  (match a0 with | none => ((locks_Table_find none a1).bind fun t378 => (bif (!t378.2) then (some (zero_api_Hold, false)) else none)) | some o0 => ((locks_Table_find (some o0) a1).bind fun t408 => (bif (!t408.2) then (some (zero_api_Hold, false)) else ((geto o0.l t408.1).bind fun x427 => (some (x427, true))))))

noncomputable def ref11_Held_l0 (a0 : (List api_Hold)) (a1 : api_ID) (z713 : (Int)) : Option ((Int) ⊕ (api_Hold × Bool)) :=
  (bif (decide (z713 < ((a0).length : Int))) then ((geto a0 z713).bind fun x723 => (bif ((x723.ID.Session == a1.Session) && (x723.ID.Seq == a1.Seq)) then (inrO (some (x723, true))) else (some (Sum.inl (IntKind.i64.wrap (z713 + (1:Int))))))) else (inrO (some (zero_api_Hold, false))))
noncomputable def ref11_Held (a0 : (List api_Hold)) (a1 : api_ID) : Option (api_Hold × Bool) :=
  (loopO (ref11_Held_l0 a0 a1) (0:Int))

noncomputable def locks_Table_Until_l0 (o0 : locks_Table) (a1 : Int) (z1055 : (Int)) : Option ((Int) ⊕ (Int)) :=
  (bif (decide (z1055 < ((o0.l).length : Int))) then ((geto o0.l z1055).bind fun x1065 => ((some ()).bind fun _ => (bif (decide (x1065.Epoch ≤ a1)) then (inrO (some z1055)) else (some (Sum.inl (IntKind.i64.wrap (z1055 + (1:Int)))))))) else (inrO (some ((-1):Int))))
noncomputable def locks_Table_Until (a0 : (Option locks_Table)) (a1 : Int) : Option (Bool) :=
  (match a0 with | none => (some false) | some o0 => (((loopO (locks_Table_Until_l0 o0 a1) (0:Int)).bind fun z1095 => (some (decide (z1095 ≥ (0:Int))))).bind fun z1100 => (some z1100)))

noncomputable def law12_told_l1 (t1049 : ((List api_ID))) (a0 : (Option locks_Table)) (a1 : (List api_Hold)) (z1222 : (Int)) : Option ((Int) ⊕ (Unit ⊕ (Bool))) :=
  (bif (decide (z1222 < ((t1049).length : Int))) then ((geto t1049 z1222).bind fun x1233 => ((locks_Table_Get a0 x1233).bind fun t1238 => ((ref11_Held a1 x1233).bind fun t1266 => (bif (!t1238.2) then (inrO (inrO (some false))) else (bif (!t1266.2) then (inrO (inrO (some false))) else ((ref11_SameHold t1238.1 t1266.1).bind fun t1296 => (bif (!t1296) then (inrO (inrO (some false))) else (bif (decide (z1222 > (0:Int))) then ((geto t1049 (IntKind.i64.wrap (z1222 - (1:Int)))).bind fun x1303 => (bif (decide (x1303.Session > x1233.Session)) then (inrO (inrO (some false))) else (bif (x1303.Session == x1233.Session) then (bif (decide (x1303.Seq ≥ x1233.Seq)) then (inrO (inrO (some false))) else (some (Sum.inl (IntKind.i64.wrap (z1222 + (1:Int)))))) else (some (Sum.inl (IntKind.i64.wrap (z1222 + (1:Int)))))))) else (some (Sum.inl (IntKind.i64.wrap (z1222 + (1:Int))))))))))))) else (inrO (some (Sum.inl ()))))
noncomputable def law12_told_l4 (a1 : (List api_Hold)) (z1499 : Int) (s : (Bool × Int)) : Option ((Bool × Int) ⊕ (Bool)) :=
  match s with | (z1554, z1555) => (bif (decide (z1555 < ((a1).length : Int))) then (bif z1554 then (some (Sum.inl (true, (IntKind.i64.wrap (z1555 + (1:Int)))))) else ((geto a1 z1555).bind fun x1566 => (some (Sum.inl ((decide (x1566.Epoch ≤ z1499)), (IntKind.i64.wrap (z1555 + (1:Int)))))))) else (inrO (some z1554)))
noncomputable def law12_told_j3 (a0 : (Option locks_Table)) (z1499 : Int) (z1586 : (Bool)) : Option ((Int) ⊕ (Bool)) :=
  ((locks_Table_Until a0 z1499).bind fun t1592 => (bif (!(t1592 == z1586)) then (inrO (some false)) else (some (Sum.inl (IntKind.u64.wrap (z1499 + (1:Int)))))))
noncomputable def law12_told_l2 (a1 : (List api_Hold)) (a0 : (Option locks_Table)) (z1499 : (Int)) : Option ((Int) ⊕ (Bool)) :=
  (bif (decide (z1499 < (6:Int))) then (((loopO (law12_told_l4 a1 z1499) (false, (0:Int)))).bind (law12_told_j3 a0 z1499)) else (inrO (some true)))
noncomputable def law12_told_j0 (a1 : (List api_Hold)) (a0 : (Option locks_Table)) (_s : Unit) : Option (Bool) :=
  (loopO (law12_told_l2 a1 a0) (0:Int))
noncomputable def law12_told (a0 : (Option locks_Table)) (a1 : (List api_Hold)) : Option (Bool) :=
  ((locks_Table_All a0).bind fun t1049 => ((locks_Table_Len a0).bind fun t1056 => (bif (t1056 != ((a1).length : Int)) then (some false) else (bif (((t1049).length : Int) != ((a1).length : Int)) then (some false) else (joinO (loopO (law12_told_l1 t1049 a0 a1) (0:Int)) (law12_told_j0 a1 a0))))))

noncomputable def law12_LocksBytes_l1 (s : (ref12_Tape × locks_Table × Int)) : Option ((ref12_Tape × locks_Table × Int) ⊕ (locks_Table)) :=
  match s with | (z722, z723, z724) => (bif (decide (z724 < (8:Int))) then ((ref12_Tape_Hold z722).bind fun t735 => ((locks_Table_Take (some z723) t735.1).bind fun t756 => (match t756.2 with | none => none | some y761 => (some (Sum.inl (t735.2, y761, (IntKind.i64.wrap (z724 + (1:Int))))))))) else (inrO (some z723)))
noncomputable def law12_LocksBytes_l3 (t789 : ((List api_ID))) (z763 : locks_Table) (s : ((List api_Hold) × Int)) : Option (((List api_Hold) × Int) ⊕ ((List api_Hold))) :=
  match s with | (z944, z947) => (bif (decide (z947 < ((t789).length : Int))) then ((geto t789 z947).bind fun x958 => ((locks_Table_Get (some z763) x958).bind fun t963 => (gd (room z944 ([t963.1])) (some (Sum.inl ((z944 ++ ([t963.1])), (IntKind.i64.wrap (z947 + (1:Int))))))))) else (inrO (some z944)))
noncomputable def law12_LocksBytes_j2 (t781 : (Option locks_Table × Int)) (z763 : locks_Table) (z1007 : ((List api_Hold))) : Option (Bool) :=
  (bif (t781.2 == (0:Int)) then ((law12_told t781.1 z1007).bind fun t1019 => (bif t1019 then ((locks_Table_Encode t781.1).bind fun t1025 => ((locks_Table_Encode (some z763)).bind fun t1032 => (some (sEq (toStr t1025) (toStr t1032))))) else (some false))) else (some false))
noncomputable def law12_LocksBytes_j0 (z763 : (locks_Table)) : Option (Bool) :=
  ((locks_Table_Encode (some z763)).bind fun t771 => ((locks_Decode t771).bind fun t781 => ((locks_Table_All (some z763)).bind fun t789 => (((loopO (law12_LocksBytes_l3 t789 z763) ([], (0:Int)))).bind (law12_LocksBytes_j2 t781 z763)))))
noncomputable def law12_LocksBytes (a0 : api_Hold) (a1 : (List Int)) : Option (Bool) :=
  (law12_awake.bind fun t530 => (bif (!t530) then (law12_awake.bind fun t536 => (some t536)) else ((law12_short a0).bind fun t541 => (bif (!t541) then (law12_awake.bind fun t547 => (some t547)) else (bif (decide (((a1).length : Int) > (300:Int))) then (law12_awake.bind fun t553 => (some t553)) else ((locks_Lay ({ p := [] } : octet_Writer) a0).bind fun t565 => ((octet_Writer_Done t565).bind fun t570 => ((octet_Read t570).bind fun t580 => ((locks_Read t580).bind fun t587 => ((ref12_Hold ([]) a0).bind fun t613 => (bif (!(sEq (toStr t570) (toStr t613))) then (some false) else ((octet_Reader_End t587.2).bind fun t621 => (bif (!t621) then (some false) else ((ref11_SameHold t587.1 a0).bind fun t635 => (bif (!t635) then (some false) else (locks_New.bind fun t647 => ((locks_Table_Take (some t647) a0).bind fun t654 => (match t654.2 with | none => none | some y659 => (((loopO (law12_LocksBytes_l1) (({ L := a1, I := (0:Int) } : ref12_Tape), y659, (0:Int)))).bind (law12_LocksBytes_j0))))))))))))))))))))

noncomputable def locks_Same_1 (a0 : (Nat × Nat)) (a1 : (Nat × Nat)) : Option (Bool) :=
  ((number_Same a0.1 a1.1).bind fun t258 => (bif t258 then ((number_Same a0.2 a1.2).bind fun t264 => (some t264)) else (some false)))

noncomputable def locks_Same_l0 (a0 : api_Hold) (a1 : api_Hold) (z440 : (Int)) : Option ((Int) ⊕ (Bool)) :=
  (bif (decide (z440 < ((a0.Gets).length : Int))) then ((geto a0.Gets z440).bind fun x450 => ((geto a1.Gets z440).bind fun x455 => ((number_Same x450 x455).bind fun t460 => (bif (!t460) then (inrO (some false)) else (some (Sum.inl (IntKind.i64.wrap (z440 + (1:Int))))))))) else (inrO (some true)))
noncomputable def locks_Same_l1 (a0 : api_Hold) (a1 : api_Hold) (z536 : (Int)) : Option ((Int) ⊕ (Bool)) :=
  (bif (decide (z536 < ((a0.Scans).length : Int))) then ((geto a0.Scans z536).bind fun x546 => ((geto a1.Scans z536).bind fun x558 => ((locks_Same_1 x546 x558).bind fun t570 => (bif (!t570) then (inrO (some false)) else (some (Sum.inl (IntKind.i64.wrap (z536 + (1:Int))))))))) else (inrO (some true)))
noncomputable def locks_Same_l2 (a0 : api_Hold) (a1 : api_Hold) (z618 : (Int)) : Option ((Int) ⊕ (Bool)) :=
  (bif (decide (z618 < ((a0.Puts).length : Int))) then ((geto a0.Puts z618).bind fun x628 => ((geto a1.Puts z618).bind fun x633 => ((number_Same x628 x633).bind fun t638 => (bif (!t638) then (inrO (some false)) else (some (Sum.inl (IntKind.i64.wrap (z618 + (1:Int))))))))) else (inrO (some true)))
noncomputable def locks_Same (a0 : api_Hold) (a1 : api_Hold) : Option (Bool) :=
  (bif ((a0.ID.Session == a1.ID.Session) && (a0.ID.Seq == a1.ID.Seq)) then (bif (a0.Epoch == a1.Epoch) then ((bif (((a0.Gets).length : Int) != ((a1.Gets).length : Int)) then (some false) else (loopO (locks_Same_l0 a0 a1) (0:Int))).bind fun z466 => (bif z466 then ((bif (((a0.Scans).length : Int) != ((a1.Scans).length : Int)) then (some false) else (loopO (locks_Same_l1 a0 a1) (0:Int))).bind fun z576 => (bif z576 then ((bif (((a0.Puts).length : Int) != ((a1.Puts).length : Int)) then (some false) else (loopO (locks_Same_l2 a0 a1) (0:Int))).bind fun z644 => (bif z644 then ((slices_Equal_byte_byte a0.Data a1.Data).bind fun t650 => (some t650)) else (some false))) else (some false))) else (some false))) else (some false)) else (some false))

noncomputable def ref11_has_l0 (a0 : (List Nat)) (a1 : Nat) (z265 : (Int)) : Option ((Int) ⊕ (Bool)) :=
  (bif (decide (z265 < ((a0).length : Int))) then ((geto a0 z265).bind fun x275 => ((ref01_Same x275 a1).bind fun t280 => (bif t280 then (inrO (some true)) else (some (Sum.inl (IntKind.i64.wrap (z265 + (1:Int)))))))) else (inrO (some false)))
noncomputable def ref11_has (a0 : (List Nat)) (a1 : Nat) : Option (Bool) :=
  (loopO (ref11_has_l0 a0 a1) (0:Int))

noncomputable def ref01_Within (a0 : Nat) (a1 : Nat) (a2 : Nat) : Option (Bool) :=
  ((ref01_Ahead a0 a1).bind fun t213 => (bif (!t213) then ((ref01_Ahead a2 a0).bind fun t219 => (some (!t219))) else (some false)))

noncomputable def ref11_reads_l1 (a0 : api_Hold) (a1 : Nat) (z291 : (Int)) : Option ((Int) ⊕ (Unit ⊕ (Bool))) :=
  (bif (decide (z291 < ((a0.Scans).length : Int))) then ((geto a0.Scans z291).bind fun x301 => ((ref01_Within a1 x301.1 x301.2).bind fun t306 => (bif t306 then (inrO (inrO (some true))) else (some (Sum.inl (IntKind.i64.wrap (z291 + (1:Int)))))))) else (inrO (some (Sum.inl ()))))
noncomputable def ref11_reads_j0 (a0 : api_Hold) (a1 : Nat) (_s : Unit) : Option (Bool) :=
  ((ref11_has a0.Gets a1).bind fun t317 => (some t317))
noncomputable def ref11_reads (a0 : api_Hold) (a1 : Nat) : Option (Bool) :=
  (joinO (loopO (ref11_reads_l1 a0 a1) (0:Int)) (ref11_reads_j0 a0 a1))

noncomputable def ref11_Meet_l1 (a0 : api_Hold) (a1 : api_Hold) (z361 : (Int)) : Option ((Int) ⊕ (Unit ⊕ (Bool))) :=
  (bif (decide (z361 < ((a0.Puts).length : Int))) then ((geto a0.Puts z361).bind fun x371 => ((ref11_has a1.Puts x371).bind fun t376 => (bif t376 then (inrO (inrO (some true))) else ((ref11_reads a1 x371).bind fun t382 => (bif t382 then (inrO (inrO (some true))) else (some (Sum.inl (IntKind.i64.wrap (z361 + (1:Int)))))))))) else (inrO (some (Sum.inl ()))))
noncomputable def ref11_Meet_l2 (a1 : api_Hold) (a0 : api_Hold) (z418 : (Int)) : Option ((Int) ⊕ (Bool)) :=
  (bif (decide (z418 < ((a1.Puts).length : Int))) then ((geto a1.Puts z418).bind fun x428 => ((ref11_reads a0 x428).bind fun t433 => (bif t433 then (inrO (some true)) else (some (Sum.inl (IntKind.i64.wrap (z418 + (1:Int)))))))) else (inrO (some false)))
noncomputable def ref11_Meet_j0 (a1 : api_Hold) (a0 : api_Hold) (_s : Unit) : Option (Bool) :=
  (loopO (ref11_Meet_l2 a1 a0) (0:Int))
noncomputable def ref11_Meet (a0 : api_Hold) (a1 : api_Hold) : Option (Bool) :=
  (joinO (loopO (ref11_Meet_l1 a0 a1) (0:Int)) (ref11_Meet_j0 a1 a0))

noncomputable def law12_LocksMeet (a0 : api_Hold) (a1 : api_Hold) (a2 : (List Int)) : Option (Bool) :=
  (law12_awake.bind fun t294 => (bif (!t294) then (law12_awake.bind fun t300 => (some t300)) else ((law12_short a0).bind fun t305 => (bif (!t305) then (law12_awake.bind fun t311 => (some t311)) else ((law12_short a1).bind fun t316 => (bif (!t316) then (law12_awake.bind fun t322 => (some t322)) else (bif (decide (((a2).length : Int) > (100:Int))) then (law12_awake.bind fun t328 => (some t328)) else ((ref12_Tape_Hold ({ L := a2, I := (0:Int) } : ref12_Tape)).bind fun t339 => ((ref12_Tape_Hold t339.2).bind fun t363 => ((locks_Same a0 a1).bind fun t387 => ((ref11_SameHold a0 a1).bind fun t392 => (bif (!(t387 == t392)) then (some false) else ((locks_Same a0 a0).bind fun t398 => (bif (!t398) then (some false) else ((locks_Same t339.1 t363.1).bind fun t420 => ((ref11_SameHold t339.1 t363.1).bind fun t441 => (bif (!(t420 == t441)) then (some false) else ((locks_Meet a0 a1).bind fun t447 => ((ref11_Meet a0 a1).bind fun t452 => (bif (t447 == t452) then ((locks_Meet a1 a0).bind fun t458 => ((ref11_Meet a1 a0).bind fun t463 => (bif (t458 == t463) then ((locks_Meet a0 a1).bind fun t469 => ((locks_Meet a1 a0).bind fun t474 => (bif (t469 == t474) then ((locks_Meet t339.1 t363.1).bind fun t496 => ((ref11_Meet t339.1 t363.1).bind fun t517 => (bif (t496 == t517) then ((locks_Meet a0 t339.1).bind fun t531 => ((ref11_Meet a0 t339.1).bind fun t544 => (some (t531 == t544)))) else (some false)))) else (some false)))) else (some false)))) else (some false)))))))))))))))))))))

noncomputable def ref11_Drop_l0 (a0 : (List api_Hold)) (a1 : api_ID) (s : ((List api_Hold) × Int)) : Option (((List api_Hold) × Int) ⊕ ((List api_Hold))) :=
  match s with | (z369, z372) => (bif (decide (z372 < ((a0).length : Int))) then ((geto a0 z372).bind fun x382 => (bif (!((x382.ID.Session == a1.Session) && (x382.ID.Seq == a1.Seq))) then (gd (room z369 ([x382])) (some (Sum.inl ((z369 ++ ([x382])), (IntKind.i64.wrap (z372 + (1:Int))))))) else (some (Sum.inl (z369, (IntKind.i64.wrap (z372 + (1:Int)))))))) else (inrO (some z369)))
noncomputable def ref11_Drop (a0 : (List api_Hold)) (a1 : api_ID) : Option ((List api_Hold)) :=
  (loopO (ref11_Drop_l0 a0 a1) ([], (0:Int)))

noncomputable def slices_Delete_api_Hold_api_Hold (a0 : (List api_Hold)) (a1 a2 : Int) : Option ((List api_Hold)) :=
  gd (fits a0 a1 a2) (some (del a0 a1 a2))

noncomputable def locks_Table_Drop (a0 : (Option locks_Table)) (a1 : api_ID) : Option (Bool × (Option locks_Table)) :=
  (match a0 with | none => ((locks_Table_find none a1).bind fun t131 => (bif t131.2 then none else (some (t131.2, none)))) | some o0 => ((locks_Table_find (some o0) a1).bind fun t142 => (bif t142.2 then ((slices_Delete_api_Hold_api_Hold o0.l t142.1 (IntKind.i64.wrap (t142.1 + (1:Int)))).bind fun t151 => (some (t142.2, (some ({ l := t151 } : locks_Table))))) else (some (t142.2, (some o0))))))

noncomputable def ref11_Take_l1 (a0 : (List api_Hold)) (a1 : api_Hold) (z346 : (Int)) : Option ((Int) ⊕ (Unit ⊕ ((List api_Hold) × Bool))) :=
  (bif (decide (z346 < ((a0).length : Int))) then ((geto a0 z346).bind fun x356 => (bif (!((x356.ID.Session == a1.ID.Session) && (x356.ID.Seq == a1.ID.Seq))) then ((ref11_Meet x356 a1).bind fun t377 => (bif t377 then (inrO (inrO (some (a0, false)))) else (some (Sum.inl (IntKind.i64.wrap (z346 + (1:Int))))))) else (some (Sum.inl (IntKind.i64.wrap (z346 + (1:Int))))))) else (inrO (some (Sum.inl ()))))
noncomputable def ref11_Take_j2 (z430 : ((List api_Hold))) : Option ((List api_Hold) × Bool) :=
  (some (z430, true))
noncomputable def ref11_Take_j0 (a0 : (List api_Hold)) (a1 : api_Hold) (_s : Unit) : Option ((List api_Hold) × Bool) :=
  ((((ref11_Drop a0 a1.ID).bind fun t388 => (gd (room t388 ([a1])) (some (t388 ++ ([a1])))))).bind (ref11_Take_j2))
noncomputable def ref11_Take (a0 : (List api_Hold)) (a1 : api_Hold) : Option ((List api_Hold) × Bool) :=
  (joinO (loopO (ref11_Take_l1 a0 a1) (0:Int)) (ref11_Take_j0 a0 a1))

noncomputable def law12_LocksPlays_j1 (z1038 : Int) (s : (ref12_Tape × locks_Table × (List api_Hold))) : Option ((ref12_Tape × locks_Table × (List api_Hold) × Int) ⊕ (Bool)) :=
  match s with | (z1162, z1163, z1166) => ((law12_told (some z1163) z1166).bind fun t1175 => (bif (!t1175) then (inrO (some false)) else (some (Sum.inl (z1162, z1163, z1166, (IntKind.i64.wrap (z1038 + (1:Int))))))))
noncomputable def law12_LocksPlays_l0 (s : (ref12_Tape × locks_Table × (List api_Hold) × Int)) : Option ((ref12_Tape × locks_Table × (List api_Hold) × Int) ⊕ (Bool)) :=
  match s with | (z1032, z1033, z1034, z1038) => (bif (decide (z1038 < (25:Int))) then (joinO ((ref12_Tape_Next z1032 (3:Int)).bind fun t1049 => (bif (t1049.1 == (0:Int)) then ((ref12_Tape_Of t1049.2).bind fun t1055 => ((ref11_Held z1034 t1055.1).bind fun t1067 => ((ref11_Drop z1034 t1055.1).bind fun t1095 => ((locks_Table_Drop (some z1033) t1055.1).bind fun t1102 => (match t1102.2 with | none => none | some y1107 => (bif (!(t1102.1 == t1067.2)) then (inrO (inrO (some false))) else (some (Sum.inl (t1055.2, y1107, t1095))))))))) else ((ref12_Tape_Hold t1049.2).bind fun t1110 => ((ref11_Take z1034 t1110.1).bind fun t1146 => ((locks_Table_Take (some z1033) t1110.1).bind fun t1154 => (match t1154.2 with | none => none | some y1159 => (bif (!((t1154.1 == (0:Int)) == t1146.2)) then (inrO (inrO (some false))) else (some (Sum.inl (t1110.2, y1159, t1146.1)))))))))) (law12_LocksPlays_j1 z1038)) else (inrO (some true)))
noncomputable def law12_LocksPlays (a0 : (List Int)) : Option (Bool) :=
  (law12_awake.bind fun t592 => (bif (!t592) then (law12_awake.bind fun t598 => (some t598)) else (bif (decide (((a0).length : Int) > (500:Int))) then (law12_awake.bind fun t604 => (some t604)) else (locks_New.bind fun t615 => (loopO (law12_LocksPlays_l0) (({ L := a0, I := (0:Int) } : ref12_Tape), t615, [], (0:Int)))))))

noncomputable def law12_LocksApart_l1 (a0 : (List api_Hold)) (s : (locks_Table × Int)) : Option ((locks_Table × Int) ⊕ ((locks_Table) ⊕ (Bool))) :=
  match s with | (z837, z838) => (bif (decide (z838 < ((a0).length : Int))) then ((geto a0 z838).bind fun x849 => ((law12_short x849).bind fun t869 => (bif (!t869) then (inrO (inrO (some true))) else ((locks_Table_Take (some z837) x849).bind fun t890 => (match t890.2 with | none => none | some y895 => (bif (t890.1 != (0:Int)) then (bif (t890.1 != (8:Int)) then (inrO (inrO (some false))) else (some (Sum.inl (y895, (IntKind.i64.wrap (z838 + (1:Int))))))) else (some (Sum.inl (y895, (IntKind.i64.wrap (z838 + (1:Int)))))))))))) else (inrO (some (Sum.inl z837))))
noncomputable def law12_LocksApart_l3 (z1240 : Int) (t907 : ((List api_ID))) (z899 : locks_Table) (t1256 : (api_Hold × Bool)) (z1365 : (Int)) : Option ((Int) ⊕ ((Int) ⊕ (Bool))) :=
  (bif (decide (z1365 < z1240)) then ((geto t907 z1365).bind fun x1376 => ((locks_Table_Get (some z899) x1376).bind fun t1381 => ((ref11_Meet t1256.1 t1381.1).bind fun t1409 => (bif t1409 then (inrO (inrO (some false))) else (some (Sum.inl (IntKind.i64.wrap (z1365 + (1:Int))))))))) else (inrO (some (Sum.inl (IntKind.i64.wrap (z1240 + (1:Int)))))))
noncomputable def law12_LocksApart_l2 (t907 : ((List api_ID))) (z899 : locks_Table) (z1240 : (Int)) : Option ((Int) ⊕ (Bool)) :=
  (bif (decide (z1240 < ((t907).length : Int))) then ((geto t907 z1240).bind fun x1251 => ((locks_Table_Get (some z899) x1251).bind fun t1256 => (loopO (law12_LocksApart_l3 z1240 t907 z899 t1256) (0:Int)))) else (inrO (some true)))
noncomputable def law12_LocksApart_j0 (z899 : (locks_Table)) : Option (Bool) :=
  ((locks_Table_All (some z899)).bind fun t907 => (loopO (law12_LocksApart_l2 t907 z899) (0:Int)))
noncomputable def law12_LocksApart (a0 : (List api_Hold)) : Option (Bool) :=
  (law12_awake.bind fun t709 => (bif (!t709) then (law12_awake.bind fun t715 => (some t715)) else (bif (decide (((a0).length : Int) > (30:Int))) then (law12_awake.bind fun t721 => (some t721)) else (locks_New.bind fun t726 => (joinO (loopO (law12_LocksApart_l1 a0) (t726, (0:Int))) (law12_LocksApart_j0))))))

noncomputable def law12_LocksJunk_l2 (s : (ref12_Tape × locks_Table × Int)) : Option ((ref12_Tape × locks_Table × Int) ⊕ (locks_Table)) :=
  match s with | (z340, z341, z342) => (bif (decide (z342 < (6:Int))) then ((ref12_Tape_Hold z340).bind fun t353 => ((locks_Table_Take (some z341) t353.1).bind fun t374 => (match t374.2 with | none => none | some y379 => (some (Sum.inl (t353.2, y379, (IntKind.i64.wrap (z342 + (1:Int))))))))) else (inrO (some z341)))
noncomputable def law12_LocksJunk_j1 (a2 : Int) (a3 : Int) (z381 : (locks_Table)) : Option (Bool) :=
  ((locks_Table_Encode (some z381)).bind fun t389 => (gd (!(((t389).length : Int) == (0:Int))) ((geto t389 (Int.tmod (IntKind.i64.wrap a2) ((t389).length : Int))).bind fun x397 => ((locks_Decode (t389.set (Int.tmod (IntKind.i64.wrap a2) ((t389).length : Int)).toNat (bXor .u8 x397 a3))).bind fun t409 => (bif (t409.2 == (0:Int)) then ((locks_Table_Encode t409.1).bind fun t417 => (bif (sEq (toStr t417) (toStr (t389.set (Int.tmod (IntKind.i64.wrap a2) ((t389).length : Int)).toNat (bXor .u8 x397 a3)))) then (some true) else (bif (t409.2 == (5:Int)) then (some (t409.1.isNone)) else (some false)))) else (bif (t409.2 == (5:Int)) then (some (t409.1.isNone)) else (some false)))))))
noncomputable def law12_LocksJunk_j0 (a1 : (List Int)) (a2 : Int) (a3 : Int) (_s : Unit) : Option (Bool) :=
  (locks_New.bind fun t272 => (((loopO (law12_LocksJunk_l2) (({ L := a1, I := (0:Int) } : ref12_Tape), t272, (0:Int)))).bind (law12_LocksJunk_j1 a2 a3)))
noncomputable def law12_LocksJunk (a0 : (List Int)) (a1 : (List Int)) (a2 : Int) (a3 : Int) : Option (Bool) :=
  (law12_awake.bind fun t216 => (bif (!t216) then (law12_awake.bind fun t222 => (some t222)) else (bif (decide (((a0).length : Int) > (1000:Int))) then (law12_awake.bind fun t228 => (some t228)) else (bif (decide (((a1).length : Int) > (300:Int))) then (law12_awake.bind fun t234 => (some t234)) else ((locks_Decode a0).bind fun t239 => (joinO (bif (t239.2 == (0:Int)) then ((locks_Table_Encode t239.1).bind fun t247 => (bif (!(sEq (toStr t247) (toStr a0))) then (inrO (some false)) else (bif (t239.2 != (0:Int)) then (bif (t239.2 != (5:Int)) then (inrO (some false)) else (bif (!(t239.1.isNone)) then (inrO (some false)) else (some (Sum.inl ())))) else (some (Sum.inl ()))))) else (bif (t239.2 != (0:Int)) then (bif (t239.2 != (5:Int)) then (inrO (some false)) else (bif (!(t239.1.isNone)) then (inrO (some false)) else (some (Sum.inl ())))) else (some (Sum.inl ())))) (law12_LocksJunk_j0 a1 a2 a3)))))))
end Go.Proofs.Ytbdhhmnncknhhaa
