/- The models of the Go functions: plain Lean, no memory. -/
import Derived.Test.YtbdhhmnncknhhaaLocksKeepsGv
set_option linter.unusedVariables false
set_option linter.unusedSimpArgs false
set_option maxRecDepth 100000
set_option maxHeartbeats 4000000
namespace Go.Proofs.Ytbdhhmnncknhhaa
open Go Go.V
structure api_ID where
  Session : Int
  Seq : Int

structure api_Hold where
  ID : api_ID
  Epoch : Int
  Gets : (List Nat)
  Scans : (List (Nat × Nat))
  Puts : (List Nat)
  Data : (List Int)

structure locks_Table where
  l : (List api_Hold)

structure ref12_Tape where
  L : (List Int)
  I : Int

structure octet_Reader where
  p : (List Int)
  bad : Bool

structure octet_Writer where
  p : (List Int)

def zero_api_Hold : api_Hold := { ID := ({ Session := (0:Int), Seq := (0:Int) } : api_ID), Epoch := (0:Int), Gets := [], Scans := [], Puts := [], Data := [] }

noncomputable def locks_New : Option (locks_Table) :=
  (some ({ l := [] } : locks_Table))

noncomputable def math_IsNaN (a0 : Nat) : Option (Bool) :=
  (some (fNe a0 a0))

noncomputable def number_Rank (a0 : Nat) : Option (Int) :=
  ((math_IsNaN a0).bind fun t142 => (bif t142 then (some (18446744073709551615:Int)) else (bif ((iShr .u64 (Int.ofNat a0) (63:Int)) == (1:Int)) then (some (bXor .u64 ((18446744073709551615):Int) (Int.ofNat a0))) else (some (bOr .u64 (Int.ofNat a0) (9223372036854775808:Int))))))

noncomputable def number_Within (a0 : Nat) (a1 : Nat) (a2 : Nat) : Option (Bool) :=
  ((number_Rank a1).bind fun t156 => ((number_Rank a0).bind fun t161 => (bif (decide (t156 ≤ t161)) then ((number_Rank a0).bind fun t167 => ((number_Rank a2).bind fun t172 => (some (decide (t167 ≤ t172))))) else (some false))))

noncomputable def locks_writes_l0 (a0 : api_Hold) (a1 : Nat) (a2 : Nat) (z254 : (Int)) : Option ((Int) ⊕ (Int)) :=
  (bif (decide (z254 < ((a0.Puts).length : Int))) then ((geto a0.Puts z254).bind fun x264 => (((number_Within x264 a1 a2).bind fun t269 => (some t269)).bind fun z274 => (bif z274 then (inrO (some z254)) else (some (Sum.inl (IntKind.i64.wrap (z254 + (1:Int)))))))) else (inrO (some ((-1):Int))))
noncomputable def locks_writes (a0 : api_Hold) (a1 : Nat) (a2 : Nat) : Option (Bool) :=
  (((loopO (locks_writes_l0 a0 a1 a2) (0:Int)).bind fun z280 => (some (decide (z280 ≥ (0:Int))))).bind fun z285 => (some z285))

noncomputable def number_Same (a0 : Nat) (a1 : Nat) : Option (Bool) :=
  ((number_Rank a0).bind fun t146 => ((number_Rank a1).bind fun t151 => (some (t146 == t151))))

noncomputable def locks_reads_l0 (a0 : api_Hold) (a1 : Nat) (z337 : (Int)) : Option ((Int) ⊕ (Int)) :=
  (bif (decide (z337 < ((a0.Gets).length : Int))) then ((geto a0.Gets z337).bind fun x347 => (((number_Same a1 x347).bind fun t352 => (some t352)).bind fun z357 => (bif z357 then (inrO (some z337)) else (some (Sum.inl (IntKind.i64.wrap (z337 + (1:Int)))))))) else (inrO (some ((-1):Int))))
noncomputable def locks_reads_l1 (a0 : api_Hold) (a1 : Nat) (z419 : (Int)) : Option ((Int) ⊕ (Int)) :=
  (bif (decide (z419 < ((a0.Scans).length : Int))) then ((geto a0.Scans z419).bind fun x429 => (((number_Within a1 x429.1 x429.2).bind fun t439 => (some t439)).bind fun z444 => (bif z444 then (inrO (some z419)) else (some (Sum.inl (IntKind.i64.wrap (z419 + (1:Int)))))))) else (inrO (some ((-1):Int))))
noncomputable def locks_reads (a0 : api_Hold) (a1 : Nat) : Option (Bool) :=
  (((loopO (locks_reads_l0 a0 a1) (0:Int)).bind fun z363 => (some (decide (z363 ≥ (0:Int))))).bind fun z368 => (bif z368 then (some true) else (((loopO (locks_reads_l1 a0 a1) (0:Int)).bind fun z450 => (some (decide (z450 ≥ (0:Int))))).bind fun z455 => (some z455))))

noncomputable def locks_Meet_l1 (a0 : api_Hold) (a1 : api_Hold) (z274 : (Int)) : Option ((Int) ⊕ (Unit ⊕ (Bool))) :=
  (bif (decide (z274 < ((a0.Puts).length : Int))) then ((geto a0.Puts z274).bind fun x284 => ((locks_writes a1 x284 x284).bind fun t289 => (bif t289 then (inrO (inrO (some true))) else ((locks_reads a1 x284).bind fun t295 => (bif t295 then (inrO (inrO (some true))) else (some (Sum.inl (IntKind.i64.wrap (z274 + (1:Int)))))))))) else (inrO (some (Sum.inl ()))))
noncomputable def locks_Meet_l2 (a1 : api_Hold) (a0 : api_Hold) (z331 : (Int)) : Option ((Int) ⊕ (Bool)) :=
  (bif (decide (z331 < ((a1.Puts).length : Int))) then ((geto a1.Puts z331).bind fun x341 => ((locks_reads a0 x341).bind fun t346 => (bif t346 then (inrO (some true)) else (some (Sum.inl (IntKind.i64.wrap (z331 + (1:Int)))))))) else (inrO (some false)))
noncomputable def locks_Meet_j0 (a1 : api_Hold) (a0 : api_Hold) (_s : Unit) : Option (Bool) :=
  (loopO (locks_Meet_l2 a1 a0) (0:Int))
noncomputable def locks_Meet (a0 : api_Hold) (a1 : api_Hold) : Option (Bool) :=
  (joinO (loopO (locks_Meet_l1 a0 a1) (0:Int)) (locks_Meet_j0 a1 a0))

noncomputable def slices_Clone_float64_float64 (a0 : (List Nat)) : Option ((List Nat)) :=
  gd (room ([] : (List Nat)) a0) (some a0)

noncomputable def slices_Clone_2_float64_2_float64 (a0 : (List (Nat × Nat))) : Option ((List (Nat × Nat))) :=
  gd (room ([] : (List (Nat × Nat))) a0) (some a0)

noncomputable def slices_Clone_byte_byte (a0 : (List Int)) : Option ((List Int)) :=
  gd (room ([] : (List Int)) a0) (some a0)

noncomputable def cmp_isNaN_uint64 (a0 : Int) : Option (Bool) :=
  (some (a0 != a0))

noncomputable def cmp_Compare_uint64 (a0 : Int) (a1 : Int) : Option (Int) :=
  ((cmp_isNaN_uint64 a0).bind fun t290 => ((cmp_isNaN_uint64 a1).bind fun t295 => (bif t290 then (bif t295 then (some (0:Int)) else (some ((-1):Int))) else (bif t295 then (some (1:Int)) else (bif (decide (a0 < a1)) then (some ((-1):Int)) else (bif (decide (a0 > a1)) then (some (1:Int)) else (some (0:Int))))))))

noncomputable def cmp_Or_int_l0 (a0 : (List Int)) (z323 : (Int)) : Option ((Int) ⊕ (Int)) :=
  (bif (decide (z323 < ((a0).length : Int))) then ((geto a0 z323).bind fun x333 => (bif (x333 != (0:Int)) then (inrO (some x333)) else (some (Sum.inl (IntKind.i64.wrap (z323 + (1:Int))))))) else (inrO (some (0:Int))))
noncomputable def cmp_Or_int (a0 : (List Int)) : Option (Int) :=
  (loopO (cmp_Or_int_l0 a0) (0:Int))

noncomputable def locks_compare (a0 : api_Hold) (a1 : api_ID) : Option (Int) :=
  ((cmp_Compare_uint64 a0.ID.Session a1.Session).bind fun t311 => ((cmp_Compare_uint64 a0.ID.Seq a1.Seq).bind fun t316 => ((cmp_Or_int ([t311, t316])).bind fun t328 => (some t328))))

noncomputable def locks_Table_find_l1 (o0 : locks_Table) (a1 : api_ID) (s : (Int × Int)) : Option ((Int × Int) ⊕ (Int)) :=
  match s with | (z456, z457) => (bif (decide (z457 < z456)) then ((geto o0.l (IntKind.i64.wrap (iShr .u64 (IntKind.u64.wrap (IntKind.i64.wrap (z457 + z456))) (1:Int)))).bind fun x469 => ((locks_compare x469 a1).bind fun t489 => (bif (decide (t489 < (0:Int))) then (some (Sum.inl (z456, (IntKind.i64.wrap ((IntKind.i64.wrap (iShr .u64 (IntKind.u64.wrap (IntKind.i64.wrap (z457 + z456))) (1:Int))) + (1:Int)))))) else (some (Sum.inl ((IntKind.i64.wrap (iShr .u64 (IntKind.u64.wrap (IntKind.i64.wrap (z457 + z456))) (1:Int))), z457)))))) else (inrO (some z457)))
noncomputable def locks_Table_find_j0 (o0 : locks_Table) (a1 : api_ID) (z495 : (Int)) : Option (Int × Bool) :=
  (bif (decide (z495 < ((o0.l).length : Int))) then ((geto o0.l z495).bind fun x504 => ((locks_compare x504 a1).bind fun t524 => (some (z495, (t524 == (0:Int)))))) else (some (z495, false)))
noncomputable def locks_Table_find (a0 : (Option locks_Table)) (a1 : api_ID) : Option (Int × Bool) :=
  (match a0 with | none => (some ((0:Int), false)) | some o0 => ((((loopO (locks_Table_find_l1 o0 a1) (((o0.l).length : Int), (0:Int)))).bind (locks_Table_find_j0 o0 a1)).bind fun (z529, z530) => (some (z529, z530))))

noncomputable def slices_Insert_api_Hold_api_Hold (a0 : (List api_Hold)) (a1 : Int) (a2 : (List api_Hold)) : Option ((List api_Hold)) :=
  gd (insOK a0 a1 a2) (some (ins a0 a1 a2))

noncomputable def locks_Table_Take_l1 (o0 : locks_Table) (a1 : api_Hold) (z396 : (Int)) : Option ((Int) ⊕ (Unit ⊕ (Int × (Option locks_Table)))) :=
  (bif (decide (z396 < ((o0.l).length : Int))) then ((geto o0.l z396).bind fun x406 => (bif (!((x406.ID.Session == a1.ID.Session) && (x406.ID.Seq == a1.ID.Seq))) then ((locks_Meet x406 a1).bind fun t438 => (bif t438 then (inrO (inrO (some ((8:Int), (some o0))))) else (some (Sum.inl (IntKind.i64.wrap (z396 + (1:Int))))))) else (some (Sum.inl (IntKind.i64.wrap (z396 + (1:Int))))))) else (inrO (some (Sum.inl ()))))
noncomputable def locks_Table_Take_j0 (a1 : api_Hold) (o0 : locks_Table) (_s : Unit) : Option (Int × (Option locks_Table)) :=
  ((slices_Clone_float64_float64 a1.Gets).bind fun t449 => ((slices_Clone_2_float64_2_float64 a1.Scans).bind fun t456 => ((slices_Clone_float64_float64 a1.Puts).bind fun t463 => ((slices_Clone_byte_byte a1.Data).bind fun t470 => ((locks_Table_find (some o0) a1.ID).bind fun t483 => (bif t483.2 then ((geto o0.l t483.1).bind fun x493 => (some ((0:Int), (some ({ l := (o0.l.set t483.1.toNat ({ ID := a1.ID, Epoch := a1.Epoch, Gets := t449, Scans := t456, Puts := t463, Data := t470 } : api_Hold)) } : locks_Table))))) else ((slices_Insert_api_Hold_api_Hold o0.l t483.1 ([({ ID := a1.ID, Epoch := a1.Epoch, Gets := t449, Scans := t456, Puts := t463, Data := t470 } : api_Hold)])).bind fun t554 => (some ((0:Int), (some ({ l := t554 } : locks_Table)))))))))))
noncomputable def locks_Table_Take (a0 : (Option locks_Table)) (a1 : api_Hold) : Option (Int × (Option locks_Table)) :=
  (match a0 with | none => (some ((2:Int), none)) | some o0 => (joinO (loopO (locks_Table_Take_l1 o0 a1) (0:Int)) (locks_Table_Take_j0 a1 o0)))

noncomputable def locks_Table_Get (a0 : (Option locks_Table)) (a1 : api_ID) : Option (api_Hold × Bool) :=
  (match a0 with | none => ((locks_Table_find none a1).bind fun t157 => (bif (!t157.2) then (some (zero_api_Hold, false)) else none)) | some o0 => ((locks_Table_find (some o0) a1).bind fun t187 => (bif (!t187.2) then (some (zero_api_Hold, false)) else ((geto o0.l t187.1).bind fun x206 => (some (x206, true))))))

noncomputable def locks_Table_Len (a0 : (Option locks_Table)) : Option (Int) :=
  (match a0 with | none => (some (0:Int)) | some o0 => (some ((o0.l).length : Int)))

noncomputable def law12_awake : Option (Bool) :=
  (locks_New.bind fun t218 => ((locks_Meet ({ ID := ({ Session := (1:Int), Seq := (1:Int) } : api_ID), Epoch := (0:Int), Gets := [], Scans := [], Puts := [(4607182418800017408:Nat)], Data := [] } : api_Hold) ({ ID := ({ Session := (2:Int), Seq := (1:Int) } : api_ID), Epoch := (0:Int), Gets := [], Scans := [((0:Nat), (4611686018427387904:Nat))], Puts := [], Data := [] } : api_Hold)).bind fun t235 => (bif t235 then ((locks_Table_Take (some t218) ({ ID := ({ Session := (1:Int), Seq := (1:Int) } : api_ID), Epoch := (0:Int), Gets := [], Scans := [], Puts := [(4607182418800017408:Nat)], Data := [] } : api_Hold)).bind fun t243 => (match t243.2 with | none => none | some y248 => (bif (t243.1 == (0:Int)) then ((locks_Table_Take (some y248) ({ ID := ({ Session := (2:Int), Seq := (1:Int) } : api_ID), Epoch := (0:Int), Gets := [], Scans := [((0:Nat), (4611686018427387904:Nat))], Puts := [], Data := [] } : api_Hold)).bind fun t253 => (match t253.2 with | none => none | some y258 => (bif (t253.1 == (8:Int)) then ((locks_Table_Len (some y258)).bind fun t261 => (some (t261 == (1:Int)))) else (some false)))) else (some false)))) else (some false))))

noncomputable def math_Signbit (a0 : Nat) : Option (Bool) :=
  (some (decide ((IntKind.i64.wrap (Int.ofNat a0)) < (0:Int))))

noncomputable def ref01_Ahead_j0 (a0 : Nat) (a1 : Nat) (_s : Unit) : Option (Bool) :=
  (some (fLt a0 a1))
noncomputable def ref01_Ahead (a0 : Nat) (a1 : Nat) : Option (Bool) :=
  (bif (fNe a0 a0) then (some false) else (bif (fNe a1 a1) then (some true) else (joinO (bif (fEq a0 (0:Nat)) then (bif (fEq a1 (0:Nat)) then ((math_Signbit a0).bind fun t162 => (bif t162 then ((math_Signbit a1).bind fun t168 => (inrO (some (!t168)))) else (inrO (some false)))) else (some (Sum.inl ()))) else (some (Sum.inl ()))) (ref01_Ahead_j0 a0 a1))))

noncomputable def ref01_Same (a0 : Nat) (a1 : Nat) : Option (Bool) :=
  ((ref01_Ahead a0 a1).bind fun t149 => (bif (!t149) then ((ref01_Ahead a1 a0).bind fun t155 => (some (!t155))) else (some false)))

noncomputable def ref11_SameHold_l1 (a0 : api_Hold) (a1 : api_Hold) (z407 : (Int)) : Option ((Int) ⊕ (Unit ⊕ (Bool))) :=
  (bif (decide (z407 < ((a0.Gets).length : Int))) then ((geto a0.Gets z407).bind fun x417 => ((geto a1.Gets z407).bind fun x422 => ((ref01_Same x417 x422).bind fun t427 => (bif (!t427) then (inrO (inrO (some false))) else (some (Sum.inl (IntKind.i64.wrap (z407 + (1:Int))))))))) else (inrO (some (Sum.inl ()))))
noncomputable def ref11_SameHold_l3 (a0 : api_Hold) (a1 : api_Hold) (z485 : (Int)) : Option ((Int) ⊕ (Unit ⊕ (Bool))) :=
  (bif (decide (z485 < ((a0.Scans).length : Int))) then ((geto a0.Scans z485).bind fun x495 => ((geto a1.Scans z485).bind fun x500 => ((ref01_Same x495.1 x500.1).bind fun t505 => (bif (!t505) then (inrO (inrO (some false))) else ((ref01_Same x495.2 x500.2).bind fun t511 => (bif (!t511) then (inrO (inrO (some false))) else (some (Sum.inl (IntKind.i64.wrap (z485 + (1:Int))))))))))) else (inrO (some (Sum.inl ()))))
noncomputable def ref11_SameHold_l4 (a0 : api_Hold) (a1 : api_Hold) (z557 : (Int)) : Option ((Int) ⊕ (Bool)) :=
  (bif (decide (z557 < ((a0.Puts).length : Int))) then ((geto a0.Puts z557).bind fun x567 => ((geto a1.Puts z557).bind fun x572 => ((ref01_Same x567 x572).bind fun t577 => (bif (!t577) then (inrO (some false)) else (some (Sum.inl (IntKind.i64.wrap (z557 + (1:Int))))))))) else (inrO (some true)))
noncomputable def ref11_SameHold_j2 (a0 : api_Hold) (a1 : api_Hold) (_s : Unit) : Option (Bool) :=
  (loopO (ref11_SameHold_l4 a0 a1) (0:Int))
noncomputable def ref11_SameHold_j0 (a0 : api_Hold) (a1 : api_Hold) (_s : Unit) : Option (Bool) :=
  (joinO (loopO (ref11_SameHold_l3 a0 a1) (0:Int)) (ref11_SameHold_j2 a0 a1))
noncomputable def ref11_SameHold (a0 : api_Hold) (a1 : api_Hold) : Option (Bool) :=
  (bif (!((a0.ID.Session == a1.ID.Session) && (a0.ID.Seq == a1.ID.Seq))) then (some false) else (bif (a0.Epoch != a1.Epoch) then (some false) else (bif (((a0.Gets).length : Int) != ((a1.Gets).length : Int)) then (some false) else (bif (((a0.Scans).length : Int) != ((a1.Scans).length : Int)) then (some false) else (bif (((a0.Puts).length : Int) != ((a1.Puts).length : Int)) then (some false) else (bif (!(sEq (toStr a0.Data) (toStr a1.Data))) then (some false) else (joinO (loopO (ref11_SameHold_l1 a0 a1) (0:Int)) (ref11_SameHold_j0 a0 a1))))))))

noncomputable def slices_Delete_api_Hold_api_Hold (a0 : (List api_Hold)) (a1 a2 : Int) : Option ((List api_Hold)) :=
  gd (fits a0 a1 a2) (some (del a0 a1 a2))

noncomputable def locks_Table_Drop (a0 : (Option locks_Table)) (a1 : api_ID) : Option (Bool × (Option locks_Table)) :=
  (match a0 with | none => ((locks_Table_find none a1).bind fun t175 => (bif t175.2 then none else (some (t175.2, none)))) | some o0 => ((locks_Table_find (some o0) a1).bind fun t186 => (bif t186.2 then ((slices_Delete_api_Hold_api_Hold o0.l t186.1 (IntKind.i64.wrap (t186.1 + (1:Int)))).bind fun t195 => (some (t186.2, (some ({ l := t195 } : locks_Table))))) else (some (t186.2, (some o0))))))

noncomputable def locks_Table_All_l0 (t327 : (Int)) (_s : Unit) : Option (Unit ⊕ ((List api_ID))) :=
  (bif (decide ((0:Int) < t327)) then none else (inrO (some ([]))))
noncomputable def locks_Table_All_l1 (t344 : (Int)) (o0 : locks_Table) (s : ((List api_ID) × Int)) : Option (((List api_ID) × Int) ⊕ ((List api_ID))) :=
  match s with | (z455, z458) => (bif (decide (z458 < t344)) then ((geto o0.l z458).bind fun x471 => (gd (room z455 ([x471.ID])) (some (Sum.inl ((z455 ++ ([x471.ID])), (IntKind.i64.wrap (z458 + (1:Int)))))))) else (inrO (some z455)))
noncomputable def locks_Table_All (a0 : (Option locks_Table)) : Option ((List api_ID)) :=
  (match a0 with | none => ((locks_Table_Len none).bind fun t327 => (loopO (locks_Table_All_l0 t327) ())) | some o0 => ((locks_Table_Len (some o0)).bind fun t344 => (loopO (locks_Table_All_l1 t344 o0) ([], (0:Int)))))

noncomputable def locks_Table_Until_l0 (o0 : locks_Table) (a1 : Int) (z358 : (Int)) : Option ((Int) ⊕ (Int)) :=
  (bif (decide (z358 < ((o0.l).length : Int))) then ((geto o0.l z358).bind fun x368 => ((some ()).bind fun _ => (bif (decide (x368.Epoch ≤ a1)) then (inrO (some z358)) else (some (Sum.inl (IntKind.i64.wrap (z358 + (1:Int)))))))) else (inrO (some ((-1):Int))))
noncomputable def locks_Table_Until (a0 : (Option locks_Table)) (a1 : Int) : Option (Bool) :=
  (match a0 with | none => (some false) | some o0 => (((loopO (locks_Table_Until_l0 o0 a1) (0:Int)).bind fun z398 => (some (decide (z398 ≥ (0:Int))))).bind fun z403 => (some z403)))

noncomputable def law12_LocksKeeps (a0 : Nat) (a1 : Nat) (a2 : Int) : Option (Bool) :=
  (locks_New.bind fun t187 => ((locks_Table_Take (some t187) ({ ID := ({ Session := (1:Int), Seq := (1:Int) } : api_ID), Epoch := a2, Gets := [], Scans := [], Puts := [a0], Data := [(100:Int)] } : api_Hold)).bind fun t198 => (match t198.2 with | none => none | some y203 => ((geto ([a0]) (0:Int)).bind fun x205 => ((geto ([(100:Int)]) (0:Int)).bind fun x214 => ((locks_Table_Get (some y203) ({ Session := (1:Int), Seq := (1:Int) } : api_ID)).bind fun t221 => (law12_awake.bind fun t249 => (bif t249 then (bif t221.2 then ((ref11_SameHold t221.1 ({ ID := ({ Session := (1:Int), Seq := (1:Int) } : api_ID), Epoch := a2, Gets := [], Scans := [], Puts := [a0], Data := [(100:Int)] } : api_Hold)).bind fun t276 => (bif t276 then ((locks_Table_Take none ({ ID := ({ Session := (1:Int), Seq := (1:Int) } : api_ID), Epoch := a2, Gets := [], Scans := [], Puts := (([a0]).set (0:Int).toNat a1), Data := (([(100:Int)]).set (0:Int).toNat (120:Int)) } : api_Hold)).bind fun t285 => (bif (t285.1 == (2:Int)) then ((locks_Table_Drop none ({ Session := (1:Int), Seq := (1:Int) } : api_ID)).bind fun t292 => (bif (!t292.1) then ((locks_Table_Len none).bind fun t299 => ((locks_Table_All none).bind fun t305 => (bif ((IntKind.i64.wrap (t299 + ((t305).length : Int))) == (0:Int)) then ((locks_Table_Until none a2).bind fun t314 => (some (!t314))) else (some false)))) else (some false))) else (some false))) else (some false))) else (some false)) else (some false)))))))))

noncomputable def law12_short (a0 : api_Hold) : Option (Bool) :=
  (bif (decide (((a0.Gets).length : Int) ≤ (32:Int))) then (bif (decide (((a0.Scans).length : Int) ≤ (32:Int))) then (bif (decide (((a0.Puts).length : Int) ≤ (32:Int))) then (some (decide (((a0.Data).length : Int) ≤ (257:Int)))) else (some false)) else (some false)) else (some false))

noncomputable def ref12_Tape_Next (a0 : ref12_Tape) (a1 : Int) : Option (Int × ref12_Tape) :=
  (bif (decide (a0.I ≥ ((a0.L).length : Int))) then (some ((0:Int), a0)) else ((geto a0.L (IntKind.i64.wrap ((IntKind.i64.wrap (a0.I + (1:Int))) - (1:Int)))).bind fun x103 => (gd (!(a1 == (0:Int))) (some ((Int.tmod (IntKind.i64.wrap x103) a1), ({ L := a0.L, I := (IntKind.i64.wrap (a0.I + (1:Int))) } : ref12_Tape))))))

noncomputable def ref12_Tape_Of (a0 : ref12_Tape) : Option (api_ID × ref12_Tape) :=
  ((ref12_Tape_Next a0 (4:Int)).bind fun t99 => ((ref12_Tape_Next t99.2 (4:Int)).bind fun t104 => (some (({ Session := (IntKind.u64.wrap t99.1), Seq := (IntKind.u64.wrap (IntKind.i64.wrap ((1:Int) + t104.1))) } : api_ID), t104.2))))

noncomputable def ref12_small (a0 : Int) : Option (Nat) :=
  ((geto ([(0:Nat), (4607182418800017408:Nat), (13830554455654793216:Nat), (4612811918334230528:Nat), (9094988921128908188:Nat), (18318360957983683996:Nat), (4602678819172646912:Nat), (4613937818241073152:Nat)]) (Int.tmod a0 (8:Int))).bind fun x127 => (some x127))

noncomputable def ref12_Tape_Float (a0 : ref12_Tape) : Option (Nat × ref12_Tape) :=
  ((ref12_Tape_Next a0 (8:Int)).bind fun t118 => ((ref12_small (IntKind.u8.wrap t118.1)).bind fun t123 => (some (t123, t118.2))))

noncomputable def ref12_Tape_Val_l0 (t531 : (Int × ref12_Tape)) (s : (ref12_Tape × (List Int) × Int)) : Option ((ref12_Tape × (List Int) × Int) ⊕ ((List Int) × ref12_Tape)) :=
  match s with | (z589, z590, z593) => (bif (decide (z593 < t531.1)) then ((ref12_Tape_Next z589 (26:Int)).bind fun t603 => (gd (room z590 ([(IntKind.u8.wrap (IntKind.i64.wrap ((97:Int) + t603.1)))])) (some (Sum.inl (t603.2, (z590 ++ ([(IntKind.u8.wrap (IntKind.i64.wrap ((97:Int) + t603.1)))])), (IntKind.i64.wrap (z593 + (1:Int)))))))) else (inrO (some (z590, z589))))
noncomputable def ref12_Tape_Val (a0 : ref12_Tape) : Option ((List Int) × ref12_Tape) :=
  ((ref12_Tape_Next a0 (4:Int)).bind fun t531 => (loopO (ref12_Tape_Val_l0 t531) (t531.2, [], (0:Int))))

noncomputable def ref12_Tape_Hold_l1 (t486 : (Int × ref12_Tape)) (s : ((List Nat) × ref12_Tape × Int)) : Option (((List Nat) × ref12_Tape × Int) ⊕ (ref12_Tape × (List Nat))) :=
  match s with | (z550, z553, z554) => (bif (decide (z554 < t486.1)) then ((ref12_Tape_Float z553).bind fun t564 => (gd (room z550 ([t564.1])) (some (Sum.inl ((z550 ++ ([t564.1])), t564.2, (IntKind.i64.wrap (z554 + (1:Int)))))))) else (inrO (some (z553, z550))))
noncomputable def ref12_Tape_Hold_l3 (t590 : (Int × ref12_Tape)) (s : ((List (Nat × Nat)) × ref12_Tape × Int)) : Option (((List (Nat × Nat)) × ref12_Tape × Int) ⊕ (ref12_Tape × (List (Nat × Nat)))) :=
  match s with | (z669, z672, z673) => (bif (decide (z673 < (IntKind.i64.wrap (Int.tdiv t590.1 (2:Int))))) then ((ref12_Tape_Float z672).bind fun t683 => ((ref12_Tape_Float t683.2).bind fun t688 => (gd (room z669 ([(t683.1, t688.1)])) (some (Sum.inl ((z669 ++ ([(t683.1, t688.1)])), t688.2, (IntKind.i64.wrap (z673 + (1:Int))))))))) else (inrO (some (z672, z669))))
noncomputable def ref12_Tape_Hold_l5 (t714 : (Int × ref12_Tape)) (s : ((List Nat) × ref12_Tape × Int)) : Option (((List Nat) × ref12_Tape × Int) ⊕ (ref12_Tape × (List Nat))) :=
  match s with | (z778, z781, z782) => (bif (decide (z782 < t714.1)) then ((ref12_Tape_Float z781).bind fun t792 => (gd (room z778 ([t792.1])) (some (Sum.inl ((z778 ++ ([t792.1])), t792.2, (IntKind.i64.wrap (z782 + (1:Int)))))))) else (inrO (some (z781, z778))))
noncomputable def ref12_Tape_Hold_j4 (t461 : (api_ID × ref12_Tape)) (t466 : (Int × ref12_Tape)) (z584 : (List Nat)) (z708 : (List (Nat × Nat))) (s : (ref12_Tape × (List Nat))) : Option (api_Hold × ref12_Tape) :=
  match s with | (z809, z812) => ((ref12_Tape_Next z809 (4:Int)).bind fun t818 => (bif (t818.1 == (0:Int)) then ((ref12_Tape_Val t818.2).bind fun t824 => (some (({ ID := t461.1, Epoch := (IntKind.u64.wrap (IntKind.i64.wrap ((1:Int) + t466.1))), Gets := z584, Scans := z708, Puts := z812, Data := t824.1 } : api_Hold), t824.2))) else (some (({ ID := t461.1, Epoch := (IntKind.u64.wrap (IntKind.i64.wrap ((1:Int) + t466.1))), Gets := z584, Scans := z708, Puts := z812, Data := [] } : api_Hold), t818.2))))
noncomputable def ref12_Tape_Hold_j2 (t461 : (api_ID × ref12_Tape)) (t466 : (Int × ref12_Tape)) (z584 : (List Nat)) (s : (ref12_Tape × (List (Nat × Nat)))) : Option (api_Hold × ref12_Tape) :=
  match s with | (z705, z708) => ((ref12_Tape_Next z705 (3:Int)).bind fun t714 => (((loopO (ref12_Tape_Hold_l5 t714) ([], t714.2, (0:Int)))).bind (ref12_Tape_Hold_j4 t461 t466 z584 z708)))
noncomputable def ref12_Tape_Hold_j0 (t461 : (api_ID × ref12_Tape)) (t466 : (Int × ref12_Tape)) (s : (ref12_Tape × (List Nat))) : Option (api_Hold × ref12_Tape) :=
  match s with | (z581, z584) => ((ref12_Tape_Next z581 (3:Int)).bind fun t590 => (((loopO (ref12_Tape_Hold_l3 t590) ([], t590.2, (0:Int)))).bind (ref12_Tape_Hold_j2 t461 t466 z584)))
noncomputable def ref12_Tape_Hold (a0 : ref12_Tape) : Option (api_Hold × ref12_Tape) :=
  ((ref12_Tape_Of a0).bind fun t461 => ((ref12_Tape_Next t461.2 (4:Int)).bind fun t466 => ((ref12_Tape_Next t466.2 (3:Int)).bind fun t486 => (((loopO (ref12_Tape_Hold_l1 t486) ([], t486.2, (0:Int)))).bind (ref12_Tape_Hold_j0 t461 t466)))))

noncomputable def locks_Same_1 (a0 : (Nat × Nat)) (a1 : (Nat × Nat)) : Option (Bool) :=
  ((number_Same a0.1 a1.1).bind fun t258 => (bif t258 then ((number_Same a0.2 a1.2).bind fun t264 => (some t264)) else (some false)))

noncomputable def slices_Equal_byte_byte_l0 (a0 : (List Int)) (a1 : (List Int)) (z456 : (Int)) : Option ((Int) ⊕ (Bool)) :=
  (bif (decide (z456 < ((a0).length : Int))) then ((geto a0 z456).bind fun x466 => ((geto a1 z456).bind fun x471 => (bif (x466 != x471) then (inrO (some false)) else (some (Sum.inl (IntKind.i64.wrap (z456 + (1:Int)))))))) else (inrO (some true)))
noncomputable def slices_Equal_byte_byte (a0 : (List Int)) (a1 : (List Int)) : Option (Bool) :=
  (bif (((a0).length : Int) != ((a1).length : Int)) then (some false) else (loopO (slices_Equal_byte_byte_l0 a0 a1) (0:Int)))

noncomputable def locks_Same_l0 (a0 : api_Hold) (a1 : api_Hold) (z440 : (Int)) : Option ((Int) ⊕ (Bool)) :=
  (bif (decide (z440 < ((a0.Gets).length : Int))) then ((geto a0.Gets z440).bind fun x450 => ((geto a1.Gets z440).bind fun x455 => ((number_Same x450 x455).bind fun t460 => (bif (!t460) then (inrO (some false)) else (some (Sum.inl (IntKind.i64.wrap (z440 + (1:Int))))))))) else (inrO (some true)))
noncomputable def locks_Same_l1 (a0 : api_Hold) (a1 : api_Hold) (z536 : (Int)) : Option ((Int) ⊕ (Bool)) :=
  (bif (decide (z536 < ((a0.Scans).length : Int))) then ((geto a0.Scans z536).bind fun x546 => ((geto a1.Scans z536).bind fun x558 => ((locks_Same_1 x546 x558).bind fun t570 => (bif (!t570) then (inrO (some false)) else (some (Sum.inl (IntKind.i64.wrap (z536 + (1:Int))))))))) else (inrO (some true)))
noncomputable def locks_Same_l2 (a0 : api_Hold) (a1 : api_Hold) (z618 : (Int)) : Option ((Int) ⊕ (Bool)) :=
  (bif (decide (z618 < ((a0.Puts).length : Int))) then ((geto a0.Puts z618).bind fun x628 => ((geto a1.Puts z618).bind fun x633 => ((number_Same x628 x633).bind fun t638 => (bif (!t638) then (inrO (some false)) else (some (Sum.inl (IntKind.i64.wrap (z618 + (1:Int))))))))) else (inrO (some true)))
noncomputable def locks_Same (a0 : api_Hold) (a1 : api_Hold) : Option (Bool) :=
  (bif ((a0.ID.Session == a1.ID.Session) && (a0.ID.Seq == a1.ID.Seq)) then (bif (a0.Epoch == a1.Epoch) then ((bif (((a0.Gets).length : Int) != ((a1.Gets).length : Int)) then (some false) else (loopO (locks_Same_l0 a0 a1) (0:Int))).bind fun z466 => (bif z466 then ((bif (((a0.Scans).length : Int) != ((a1.Scans).length : Int)) then (some false) else (loopO (locks_Same_l1 a0 a1) (0:Int))).bind fun z576 => (bif z576 then ((bif (((a0.Puts).length : Int) != ((a1.Puts).length : Int)) then (some false) else (loopO (locks_Same_l2 a0 a1) (0:Int))).bind fun z644 => (bif z644 then ((slices_Equal_byte_byte a0.Data a1.Data).bind fun t650 => (some t650)) else (some false))) else (some false))) else (some false))) else (some false)) else (some false))

noncomputable def ref11_has_l0 (a0 : (List Nat)) (a1 : Nat) (z265 : (Int)) : Option ((Int) ⊕ (Bool)) :=
  (bif (decide (z265 < ((a0).length : Int))) then ((geto a0 z265).bind fun x275 => ((ref01_Same x275 a1).bind fun t280 => (bif t280 then (inrO (some true)) else (some (Sum.inl (IntKind.i64.wrap (z265 + (1:Int)))))))) else (inrO (some false)))
noncomputable def ref11_has (a0 : (List Nat)) (a1 : Nat) : Option (Bool) :=
  (loopO (ref11_has_l0 a0 a1) (0:Int))

noncomputable def ref01_Within (a0 : Nat) (a1 : Nat) (a2 : Nat) : Option (Bool) :=
  ((ref01_Ahead a0 a1).bind fun t213 => (bif (!t213) then ((ref01_Ahead a2 a0).bind fun t219 => (some (!t219))) else (some false)))

noncomputable def ref11_reads_l1 (a0 : api_Hold) (a1 : Nat) (z291 : (Int)) : Option ((Int) ⊕ (Unit ⊕ (Bool))) :=
  (bif (decide (z291 < ((a0.Scans).length : Int))) then ((geto a0.Scans z291).bind fun x301 => ((ref01_Within a1 x301.1 x301.2).bind fun t306 => (bif t306 then (inrO (inrO (some true))) else (some (Sum.inl (IntKind.i64.wrap (z291 + (1:Int)))))))) else (inrO (some (Sum.inl ()))))
noncomputable def ref11_reads_j0 (a0 : api_Hold) (a1 : Nat) (_s : Unit) : Option (Bool) :=
  ((ref11_has a0.Gets a1).bind fun t317 => (some t317))
noncomputable def ref11_reads (a0 : api_Hold) (a1 : Nat) : Option (Bool) :=
  (joinO (loopO (ref11_reads_l1 a0 a1) (0:Int)) (ref11_reads_j0 a0 a1))

noncomputable def ref11_Meet_l1 (a0 : api_Hold) (a1 : api_Hold) (z361 : (Int)) : Option ((Int) ⊕ (Unit ⊕ (Bool))) :=
  (bif (decide (z361 < ((a0.Puts).length : Int))) then ((geto a0.Puts z361).bind fun x371 => ((ref11_has a1.Puts x371).bind fun t376 => (bif t376 then (inrO (inrO (some true))) else ((ref11_reads a1 x371).bind fun t382 => (bif t382 then (inrO (inrO (some true))) else (some (Sum.inl (IntKind.i64.wrap (z361 + (1:Int)))))))))) else (inrO (some (Sum.inl ()))))
noncomputable def ref11_Meet_l2 (a1 : api_Hold) (a0 : api_Hold) (z418 : (Int)) : Option ((Int) ⊕ (Bool)) :=
  (bif (decide (z418 < ((a1.Puts).length : Int))) then ((geto a1.Puts z418).bind fun x428 => ((ref11_reads a0 x428).bind fun t433 => (bif t433 then (inrO (some true)) else (some (Sum.inl (IntKind.i64.wrap (z418 + (1:Int)))))))) else (inrO (some false)))
noncomputable def ref11_Meet_j0 (a1 : api_Hold) (a0 : api_Hold) (_s : Unit) : Option (Bool) :=
  (loopO (ref11_Meet_l2 a1 a0) (0:Int))
noncomputable def ref11_Meet (a0 : api_Hold) (a1 : api_Hold) : Option (Bool) :=
  (joinO (loopO (ref11_Meet_l1 a0 a1) (0:Int)) (ref11_Meet_j0 a1 a0))

noncomputable def law12_LocksMeet (a0 : api_Hold) (a1 : api_Hold) (a2 : (List Int)) : Option (Bool) :=
  (law12_awake.bind fun t294 => (bif (!t294) then (law12_awake.bind fun t300 => (some t300)) else ((law12_short a0).bind fun t305 => (bif (!t305) then (law12_awake.bind fun t311 => (some t311)) else ((law12_short a1).bind fun t316 => (bif (!t316) then (law12_awake.bind fun t322 => (some t322)) else (bif (decide (((a2).length : Int) > (100:Int))) then (law12_awake.bind fun t328 => (some t328)) else ((ref12_Tape_Hold ({ L := a2, I := (0:Int) } : ref12_Tape)).bind fun t339 => ((ref12_Tape_Hold t339.2).bind fun t363 => ((locks_Same a0 a1).bind fun t387 => ((ref11_SameHold a0 a1).bind fun t392 => (bif (!(t387 == t392)) then (some false) else ((locks_Same a0 a0).bind fun t398 => (bif (!t398) then (some false) else ((locks_Same t339.1 t363.1).bind fun t420 => ((ref11_SameHold t339.1 t363.1).bind fun t441 => (bif (!(t420 == t441)) then (some false) else ((locks_Meet a0 a1).bind fun t447 => ((ref11_Meet a0 a1).bind fun t452 => (bif (t447 == t452) then ((locks_Meet a1 a0).bind fun t458 => ((ref11_Meet a1 a0).bind fun t463 => (bif (t458 == t463) then ((locks_Meet a0 a1).bind fun t469 => ((locks_Meet a1 a0).bind fun t474 => (bif (t469 == t474) then ((locks_Meet t339.1 t363.1).bind fun t496 => ((ref11_Meet t339.1 t363.1).bind fun t517 => (bif (t496 == t517) then ((locks_Meet a0 t339.1).bind fun t531 => ((ref11_Meet a0 t339.1).bind fun t544 => (some (t531 == t544)))) else (some false)))) else (some false)))) else (some false)))) else (some false)))))))))))))))))))))

noncomputable def ref11_Held_l0 (a0 : (List api_Hold)) (a1 : api_ID) (z219 : (Int)) : Option ((Int) ⊕ (api_Hold × Bool)) :=
  (bif (decide (z219 < ((a0).length : Int))) then ((geto a0 z219).bind fun x229 => (bif ((x229.ID.Session == a1.Session) && (x229.ID.Seq == a1.Seq)) then (inrO (some (x229, true))) else (some (Sum.inl (IntKind.i64.wrap (z219 + (1:Int))))))) else (inrO (some (zero_api_Hold, false))))
noncomputable def ref11_Held (a0 : (List api_Hold)) (a1 : api_ID) : Option (api_Hold × Bool) :=
  (loopO (ref11_Held_l0 a0 a1) (0:Int))

noncomputable def ref11_Drop_l0 (a0 : (List api_Hold)) (a1 : api_ID) (s : ((List api_Hold) × Int)) : Option (((List api_Hold) × Int) ⊕ ((List api_Hold))) :=
  match s with | (z369, z372) => (bif (decide (z372 < ((a0).length : Int))) then ((geto a0 z372).bind fun x382 => (bif (!((x382.ID.Session == a1.Session) && (x382.ID.Seq == a1.Seq))) then (gd (room z369 ([x382])) (some (Sum.inl ((z369 ++ ([x382])), (IntKind.i64.wrap (z372 + (1:Int))))))) else (some (Sum.inl (z369, (IntKind.i64.wrap (z372 + (1:Int)))))))) else (inrO (some z369)))
noncomputable def ref11_Drop (a0 : (List api_Hold)) (a1 : api_ID) : Option ((List api_Hold)) :=
  (loopO (ref11_Drop_l0 a0 a1) ([], (0:Int)))

noncomputable def ref11_Take_l1 (a0 : (List api_Hold)) (a1 : api_Hold) (z346 : (Int)) : Option ((Int) ⊕ (Unit ⊕ ((List api_Hold) × Bool))) :=
  (bif (decide (z346 < ((a0).length : Int))) then ((geto a0 z346).bind fun x356 => (bif (!((x356.ID.Session == a1.ID.Session) && (x356.ID.Seq == a1.ID.Seq))) then ((ref11_Meet x356 a1).bind fun t377 => (bif t377 then (inrO (inrO (some (a0, false)))) else (some (Sum.inl (IntKind.i64.wrap (z346 + (1:Int))))))) else (some (Sum.inl (IntKind.i64.wrap (z346 + (1:Int))))))) else (inrO (some (Sum.inl ()))))
noncomputable def ref11_Take_j2 (z430 : ((List api_Hold))) : Option ((List api_Hold) × Bool) :=
  (some (z430, true))
noncomputable def ref11_Take_j0 (a0 : (List api_Hold)) (a1 : api_Hold) (_s : Unit) : Option ((List api_Hold) × Bool) :=
  ((((ref11_Drop a0 a1.ID).bind fun t388 => (gd (room t388 ([a1])) (some (t388 ++ ([a1])))))).bind (ref11_Take_j2))
noncomputable def ref11_Take (a0 : (List api_Hold)) (a1 : api_Hold) : Option ((List api_Hold) × Bool) :=
  (joinO (loopO (ref11_Take_l1 a0 a1) (0:Int)) (ref11_Take_j0 a0 a1))

noncomputable def law12_told_l1 (t715 : ((List api_ID))) (a0 : (Option locks_Table)) (a1 : (List api_Hold)) (z888 : (Int)) : Option ((Int) ⊕ (Unit ⊕ (Bool))) :=
  (bif (decide (z888 < ((t715).length : Int))) then ((geto t715 z888).bind fun x899 => ((locks_Table_Get a0 x899).bind fun t904 => ((ref11_Held a1 x899).bind fun t932 => (bif (!t904.2) then (inrO (inrO (some false))) else (bif (!t932.2) then (inrO (inrO (some false))) else ((ref11_SameHold t904.1 t932.1).bind fun t962 => (bif (!t962) then (inrO (inrO (some false))) else (bif (decide (z888 > (0:Int))) then ((geto t715 (IntKind.i64.wrap (z888 - (1:Int)))).bind fun x969 => (bif (decide (x969.Session > x899.Session)) then (inrO (inrO (some false))) else (bif (x969.Session == x899.Session) then (bif (decide (x969.Seq ≥ x899.Seq)) then (inrO (inrO (some false))) else (some (Sum.inl (IntKind.i64.wrap (z888 + (1:Int)))))) else (some (Sum.inl (IntKind.i64.wrap (z888 + (1:Int)))))))) else (some (Sum.inl (IntKind.i64.wrap (z888 + (1:Int))))))))))))) else (inrO (some (Sum.inl ()))))
noncomputable def law12_told_l4 (a1 : (List api_Hold)) (z1165 : Int) (s : (Bool × Int)) : Option ((Bool × Int) ⊕ (Bool)) :=
  match s with | (z1220, z1221) => (bif (decide (z1221 < ((a1).length : Int))) then (bif z1220 then (some (Sum.inl (true, (IntKind.i64.wrap (z1221 + (1:Int)))))) else ((geto a1 z1221).bind fun x1232 => (some (Sum.inl ((decide (x1232.Epoch ≤ z1165)), (IntKind.i64.wrap (z1221 + (1:Int)))))))) else (inrO (some z1220)))
noncomputable def law12_told_j3 (a0 : (Option locks_Table)) (z1165 : Int) (z1252 : (Bool)) : Option ((Int) ⊕ (Bool)) :=
  ((locks_Table_Until a0 z1165).bind fun t1258 => (bif (!(t1258 == z1252)) then (inrO (some false)) else (some (Sum.inl (IntKind.u64.wrap (z1165 + (1:Int)))))))
noncomputable def law12_told_l2 (a1 : (List api_Hold)) (a0 : (Option locks_Table)) (z1165 : (Int)) : Option ((Int) ⊕ (Bool)) :=
  (bif (decide (z1165 < (6:Int))) then (((loopO (law12_told_l4 a1 z1165) (false, (0:Int)))).bind (law12_told_j3 a0 z1165)) else (inrO (some true)))
noncomputable def law12_told_j0 (a1 : (List api_Hold)) (a0 : (Option locks_Table)) (_s : Unit) : Option (Bool) :=
  (loopO (law12_told_l2 a1 a0) (0:Int))
noncomputable def law12_told (a0 : (Option locks_Table)) (a1 : (List api_Hold)) : Option (Bool) :=
  ((locks_Table_All a0).bind fun t715 => ((locks_Table_Len a0).bind fun t722 => (bif (t722 != ((a1).length : Int)) then (some false) else (bif (((t715).length : Int) != ((a1).length : Int)) then (some false) else (joinO (loopO (law12_told_l1 t715 a0 a1) (0:Int)) (law12_told_j0 a1 a0))))))

noncomputable def law12_LocksPlays_j1 (z1038 : Int) (s : (ref12_Tape × locks_Table × (List api_Hold))) : Option ((ref12_Tape × locks_Table × (List api_Hold) × Int) ⊕ (Bool)) :=
  match s with | (z1162, z1163, z1166) => ((law12_told (some z1163) z1166).bind fun t1175 => (bif (!t1175) then (inrO (some false)) else (some (Sum.inl (z1162, z1163, z1166, (IntKind.i64.wrap (z1038 + (1:Int))))))))
noncomputable def law12_LocksPlays_l0 (s : (ref12_Tape × locks_Table × (List api_Hold) × Int)) : Option ((ref12_Tape × locks_Table × (List api_Hold) × Int) ⊕ (Bool)) :=
  match s with | (z1032, z1033, z1034, z1038) => (bif (decide (z1038 < (25:Int))) then (joinO ((ref12_Tape_Next z1032 (3:Int)).bind fun t1049 => (bif (t1049.1 == (0:Int)) then ((ref12_Tape_Of t1049.2).bind fun t1055 => ((ref11_Held z1034 t1055.1).bind fun t1067 => ((ref11_Drop z1034 t1055.1).bind fun t1095 => ((locks_Table_Drop (some z1033) t1055.1).bind fun t1102 => (match t1102.2 with | none => none | some y1107 => (bif (!(t1102.1 == t1067.2)) then (inrO (inrO (some false))) else (some (Sum.inl (t1055.2, y1107, t1095))))))))) else ((ref12_Tape_Hold t1049.2).bind fun t1110 => ((ref11_Take z1034 t1110.1).bind fun t1146 => ((locks_Table_Take (some z1033) t1110.1).bind fun t1154 => (match t1154.2 with | none => none | some y1159 => (bif (!((t1154.1 == (0:Int)) == t1146.2)) then (inrO (inrO (some false))) else (some (Sum.inl (t1110.2, y1159, t1146.1)))))))))) (law12_LocksPlays_j1 z1038)) else (inrO (some true)))
noncomputable def law12_LocksPlays (a0 : (List Int)) : Option (Bool) :=
  (law12_awake.bind fun t592 => (bif (!t592) then (law12_awake.bind fun t598 => (some t598)) else (bif (decide (((a0).length : Int) > (500:Int))) then (law12_awake.bind fun t604 => (some t604)) else (locks_New.bind fun t615 => (loopO (law12_LocksPlays_l0) (({ L := a0, I := (0:Int) } : ref12_Tape), t615, [], (0:Int)))))))

noncomputable def law12_LocksApart_l1 (a0 : (List api_Hold)) (s : (locks_Table × Int)) : Option ((locks_Table × Int) ⊕ ((locks_Table) ⊕ (Bool))) :=
  match s with | (z837, z838) => (bif (decide (z838 < ((a0).length : Int))) then ((geto a0 z838).bind fun x849 => ((law12_short x849).bind fun t869 => (bif (!t869) then (inrO (inrO (some true))) else ((locks_Table_Take (some z837) x849).bind fun t890 => (match t890.2 with | none => none | some y895 => (bif (t890.1 != (0:Int)) then (bif (t890.1 != (8:Int)) then (inrO (inrO (some false))) else (some (Sum.inl (y895, (IntKind.i64.wrap (z838 + (1:Int))))))) else (some (Sum.inl (y895, (IntKind.i64.wrap (z838 + (1:Int)))))))))))) else (inrO (some (Sum.inl z837))))
noncomputable def law12_LocksApart_l3 (z1240 : Int) (t907 : ((List api_ID))) (z899 : locks_Table) (t1256 : (api_Hold × Bool)) (z1365 : (Int)) : Option ((Int) ⊕ ((Int) ⊕ (Bool))) :=
  (bif (decide (z1365 < z1240)) then ((geto t907 z1365).bind fun x1376 => ((locks_Table_Get (some z899) x1376).bind fun t1381 => ((ref11_Meet t1256.1 t1381.1).bind fun t1409 => (bif t1409 then (inrO (inrO (some false))) else (some (Sum.inl (IntKind.i64.wrap (z1365 + (1:Int))))))))) else (inrO (some (Sum.inl (IntKind.i64.wrap (z1240 + (1:Int)))))))
noncomputable def law12_LocksApart_l2 (t907 : ((List api_ID))) (z899 : locks_Table) (z1240 : (Int)) : Option ((Int) ⊕ (Bool)) :=
  (bif (decide (z1240 < ((t907).length : Int))) then ((geto t907 z1240).bind fun x1251 => ((locks_Table_Get (some z899) x1251).bind fun t1256 => (loopO (law12_LocksApart_l3 z1240 t907 z899 t1256) (0:Int)))) else (inrO (some true)))
noncomputable def law12_LocksApart_j0 (z899 : (locks_Table)) : Option (Bool) :=
  ((locks_Table_All (some z899)).bind fun t907 => (loopO (law12_LocksApart_l2 t907 z899) (0:Int)))
noncomputable def law12_LocksApart (a0 : (List api_Hold)) : Option (Bool) :=
  (law12_awake.bind fun t709 => (bif (!t709) then (law12_awake.bind fun t715 => (some t715)) else (bif (decide (((a0).length : Int) > (30:Int))) then (law12_awake.bind fun t721 => (some t721)) else (locks_New.bind fun t726 => (joinO (loopO (law12_LocksApart_l1 a0) (t726, (0:Int))) (law12_LocksApart_j0))))))

noncomputable def octet_Read (a0 : (List Int)) : Option (octet_Reader) :=
  (some ({ p := a0, bad := false } : octet_Reader))

noncomputable def octet_Reader_Bad (a0 : octet_Reader) : Option (Bool) :=
  (some a0.bad)

noncomputable def octet_Reader_Left (a0 : octet_Reader) : Option (Int) :=
  ((octet_Reader_Bad a0).bind fun t53 => (bif t53 then (some (0:Int)) else (some ((a0.p).length : Int))))

noncomputable def octet_Reader_spoil (a0 : octet_Reader) : Option (octet_Reader) :=
  (some ({ p := a0.p, bad := true } : octet_Reader))

noncomputable def octet_Reader_Num_l1 (a1 : Int) (a0 : octet_Reader) (s : (Int × Int)) : Option ((Int × Int) ⊕ (Int)) :=
  match s with | (z186, z187) => (bif (decide (z186 < (if (8:Int) < a1 then (8:Int) else a1))) then ((geto a0.p z186).bind fun x202 => (gd (decide ((0:Int) ≤ (IntKind.i64.wrap ((8:Int) * z186)))) (some (Sum.inl ((IntKind.i64.wrap (z186 + (1:Int))), (bOr .u64 z187 (iShl .u64 (IntKind.u64.wrap x202) (IntKind.i64.wrap ((8:Int) * z186))))))))) else (inrO (some z187)))
noncomputable def octet_Reader_Num_j0 (a0 : octet_Reader) (a1 : Int) (z208 : (Int)) : Option (Int × octet_Reader) :=
  (gd (fits a0.p a1 (((a0.p).length : Nat) : Int)) (some (z208, ({ p := (subs a0.p a1 (((a0.p).length : Nat) : Int)), bad := a0.bad } : octet_Reader))))
noncomputable def octet_Reader_Num (a0 : octet_Reader) (a1 : Int) : Option (Int × octet_Reader) :=
  (bif a0.bad then ((octet_Reader_spoil a0).bind fun t143 => (some ((0:Int), t143))) else (bif (decide (a1 < (0:Int))) then ((octet_Reader_spoil a0).bind fun t149 => (some ((0:Int), t149))) else (bif (decide (((a0.p).length : Int) < a1)) then ((octet_Reader_spoil a0).bind fun t155 => (some ((0:Int), t155))) else (((loopO (octet_Reader_Num_l1 a1 a0) ((0:Int), (0:Int)))).bind (octet_Reader_Num_j0 a0 a1)))))

noncomputable def octet_Reader_Count (a0 : octet_Reader) (a1 : Int) : Option (Int × octet_Reader) :=
  ((octet_Reader_Num a0 (4:Int)).bind fun t65 => (bif (decide (a1 < (0:Int))) then ((octet_Reader_spoil t65.2).bind fun t71 => (some ((0:Int), t71))) else (bif (decide (t65.1 > (IntKind.u64.wrap a1))) then ((octet_Reader_spoil t65.2).bind fun t77 => (some ((0:Int), t77))) else (some ((IntKind.i64.wrap t65.1), t65.2)))))

noncomputable def number_Back (a0 : Int) : Option (Nat) :=
  (bif ((iShr .u64 a0 (63:Int)) == (1:Int)) then (some (Int.toNat (bAndNot .u64 a0 (9223372036854775808:Int)))) else (some (Int.toNat (bXor .u64 ((18446744073709551615):Int) a0))))

noncomputable def octet_Reader_Bytes (a0 : octet_Reader) (a1 : Int) : Option ((List Int) × octet_Reader) :=
  ((octet_Reader_Num a0 (4:Int)).bind fun t565 => (bif t565.2.bad then ((octet_Reader_spoil t565.2).bind fun t575 => (some ([], t575))) else (bif (decide (a1 < (0:Int))) then ((octet_Reader_spoil t565.2).bind fun t582 => (some ([], t582))) else (bif (decide (t565.1 > (IntKind.u64.wrap a1))) then ((octet_Reader_spoil t565.2).bind fun t589 => (some ([], t589))) else (bif (decide (t565.1 > (IntKind.u64.wrap ((t565.2.p).length : Int)))) then ((octet_Reader_spoil t565.2).bind fun t596 => (some ([], t596))) else (gd (fits t565.2.p (0:Int) t565.1) (gd (room ([] : List Int) (subs t565.2.p (0:Int) t565.1)) (gd (fits t565.2.p t565.1 (((t565.2.p).length : Nat) : Int)) (some ((subs t565.2.p (0:Int) t565.1), ({ p := (subs t565.2.p t565.1 (((t565.2.p).length : Nat) : Int)), bad := t565.2.bad } : octet_Reader)))))))))))

noncomputable def locks_Read_l1 (t555 : (Int × octet_Reader)) (s : ((List Nat) × octet_Reader × Int)) : Option (((List Nat) × octet_Reader × Int) ⊕ (octet_Reader × (List Nat))) :=
  match s with | (z634, z637, z638) => (bif (decide (z638 < t555.1)) then ((octet_Reader_Num z637 (8:Int)).bind fun t648 => ((number_Back t648.1).bind fun t653 => (gd (room z634 ([t653])) (some (Sum.inl ((z634 ++ ([t653])), t648.2, (IntKind.i64.wrap (z638 + (1:Int))))))))) else (inrO (some (z637, z634))))
noncomputable def locks_Read_l3 (t679 : (Int × octet_Reader)) (s : ((List (Nat × Nat)) × octet_Reader × Int)) : Option (((List (Nat × Nat)) × octet_Reader × Int) ⊕ (octet_Reader × (List (Nat × Nat)))) :=
  match s with | (z788, z791, z792) => (bif (decide (z792 < t679.1)) then ((octet_Reader_Num z791 (8:Int)).bind fun t802 => ((number_Back t802.1).bind fun t807 => ((octet_Reader_Num t802.2 (8:Int)).bind fun t812 => ((number_Back t812.1).bind fun t817 => (gd (room z788 ([(t807, t817)])) (some (Sum.inl ((z788 ++ ([(t807, t817)])), t812.2, (IntKind.i64.wrap (z792 + (1:Int))))))))))) else (inrO (some (z791, z788))))
noncomputable def locks_Read_l5 (t843 : (Int × octet_Reader)) (s : ((List Nat) × octet_Reader × Int)) : Option (((List Nat) × octet_Reader × Int) ⊕ (octet_Reader × (List Nat))) :=
  match s with | (z922, z925, z926) => (bif (decide (z926 < t843.1)) then ((octet_Reader_Num z925 (8:Int)).bind fun t936 => ((number_Back t936.1).bind fun t941 => (gd (room z922 ([t941])) (some (Sum.inl ((z922 ++ ([t941])), t936.2, (IntKind.i64.wrap (z926 + (1:Int))))))))) else (inrO (some (z925, z922))))
noncomputable def locks_Read_j4 (t525 : (Int × octet_Reader)) (t530 : (Int × octet_Reader)) (t535 : (Int × octet_Reader)) (z673 : (List Nat)) (z837 : (List (Nat × Nat))) (s : (octet_Reader × (List Nat))) : Option (api_Hold × octet_Reader) :=
  match s with | (z958, z961) => ((octet_Reader_Bytes z958 (257:Int)).bind fun t967 => (some (({ ID := ({ Session := t525.1, Seq := t530.1 } : api_ID), Epoch := t535.1, Gets := z673, Scans := z837, Puts := z961, Data := t967.1 } : api_Hold), t967.2)))
noncomputable def locks_Read_j2 (t525 : (Int × octet_Reader)) (t530 : (Int × octet_Reader)) (t535 : (Int × octet_Reader)) (z673 : (List Nat)) (s : (octet_Reader × (List (Nat × Nat)))) : Option (api_Hold × octet_Reader) :=
  match s with | (z834, z837) => ((((octet_Reader_Count z834 (32:Int)).bind fun t843 => (loopO (locks_Read_l5 t843) ([], t843.2, (0:Int))))).bind (locks_Read_j4 t525 t530 t535 z673 z837))
noncomputable def locks_Read_j0 (t525 : (Int × octet_Reader)) (t530 : (Int × octet_Reader)) (t535 : (Int × octet_Reader)) (s : (octet_Reader × (List Nat))) : Option (api_Hold × octet_Reader) :=
  match s with | (z670, z673) => ((((octet_Reader_Count z670 (32:Int)).bind fun t679 => (loopO (locks_Read_l3 t679) ([], t679.2, (0:Int))))).bind (locks_Read_j2 t525 t530 t535 z673))
noncomputable def locks_Read (a0 : octet_Reader) : Option (api_Hold × octet_Reader) :=
  ((octet_Reader_Num a0 (8:Int)).bind fun t525 => ((octet_Reader_Num t525.2 (8:Int)).bind fun t530 => ((octet_Reader_Num t530.2 (8:Int)).bind fun t535 => ((((octet_Reader_Count t535.2 (32:Int)).bind fun t555 => (loopO (locks_Read_l1 t555) ([], t555.2, (0:Int))))).bind (locks_Read_j0 t525 t530 t535)))))

noncomputable def octet_Reader_End (a0 : octet_Reader) : Option (Bool) :=
  ((octet_Reader_Bad a0).bind fun t366 => (bif (!t366) then (some (((a0.p).length : Int) == (0:Int))) else (some false)))

noncomputable def octet_Writer_lay (a0 : octet_Writer) (a1 : (List Int)) : Option (octet_Writer) :=
  (gd (room a0.p a1) (some ({ p := (a0.p ++ a1) } : octet_Writer)))

noncomputable def octet_Writer_Num_l0 (a2 : Int) (a1 : Int) (s : (octet_Writer × Int)) : Option ((octet_Writer × Int) ⊕ (octet_Writer)) :=
  match s with | (z461, z462) => (bif (decide (z462 < a2)) then (gd (decide ((0:Int) ≤ (IntKind.i64.wrap ((8:Int) * z462)))) ((octet_Writer_lay z461 ([(IntKind.u8.wrap (iShr .u64 a1 (IntKind.i64.wrap ((8:Int) * z462))))])).bind fun t480 => (some (Sum.inl (t480, (IntKind.i64.wrap (z462 + (1:Int)))))))) else (inrO (some z461)))
noncomputable def octet_Writer_Num (a0 : octet_Writer) (a1 : Int) (a2 : Int) : Option (octet_Writer) :=
  (loopO (octet_Writer_Num_l0 a2 a1) (a0, (0:Int)))

noncomputable def octet_Writer_Done (a0 : octet_Writer) : Option ((List Int)) :=
  (some a0.p)

noncomputable def octet_Writer_Bytes (a0 : octet_Writer) (a1 : (List Int)) : Option (octet_Writer) :=
  ((octet_Writer_Num a0 (IntKind.u64.wrap ((a1).length : Int)) (4:Int)).bind fun t753 => ((octet_Writer_lay t753 a1).bind fun t758 => (some t758)))

noncomputable def locks_Lay_l1 (a1 : api_Hold) (s : (octet_Writer × Int)) : Option ((octet_Writer × Int) ⊕ (octet_Writer)) :=
  match s with | (z808, z809) => (bif (decide (z809 < ((a1.Gets).length : Int))) then ((geto a1.Gets z809).bind fun x819 => ((number_Rank x819).bind fun t824 => ((octet_Writer_Num z808 t824 (8:Int)).bind fun t829 => (some (Sum.inl (t829, (IntKind.i64.wrap (z809 + (1:Int))))))))) else (inrO (some z808)))
noncomputable def locks_Lay_l3 (a1 : api_Hold) (s : (octet_Writer × Int)) : Option ((octet_Writer × Int) ⊕ (octet_Writer)) :=
  match s with | (z913, z914) => (bif (decide (z914 < ((a1.Scans).length : Int))) then ((geto a1.Scans z914).bind fun x924 => ((number_Rank x924.1).bind fun t936 => ((octet_Writer_Num z913 t936 (8:Int)).bind fun t941 => ((number_Rank x924.2).bind fun t946 => ((octet_Writer_Num t941 t946 (8:Int)).bind fun t951 => (some (Sum.inl (t951, (IntKind.i64.wrap (z914 + (1:Int))))))))))) else (inrO (some z913)))
noncomputable def locks_Lay_l5 (a1 : api_Hold) (s : (octet_Writer × Int)) : Option ((octet_Writer × Int) ⊕ (octet_Writer)) :=
  match s with | (z1001, z1002) => (bif (decide (z1002 < ((a1.Puts).length : Int))) then ((geto a1.Puts z1002).bind fun x1012 => ((number_Rank x1012).bind fun t1017 => ((octet_Writer_Num z1001 t1017 (8:Int)).bind fun t1022 => (some (Sum.inl (t1022, (IntKind.i64.wrap (z1002 + (1:Int))))))))) else (inrO (some z1001)))
noncomputable def locks_Lay_j4 (a1 : api_Hold) (z1027 : (octet_Writer)) : Option (octet_Writer) :=
  ((octet_Writer_Bytes z1027 a1.Data).bind fun t1033 => (some t1033))
noncomputable def locks_Lay_j2 (a1 : api_Hold) (z956 : (octet_Writer)) : Option (octet_Writer) :=
  ((octet_Writer_Num z956 (IntKind.u64.wrap ((a1.Puts).length : Int)) (4:Int)).bind fun t962 => (((loopO (locks_Lay_l5 a1) (t962, (0:Int)))).bind (locks_Lay_j4 a1)))
noncomputable def locks_Lay_j0 (a1 : api_Hold) (z834 : (octet_Writer)) : Option (octet_Writer) :=
  ((octet_Writer_Num z834 (IntKind.u64.wrap ((a1.Scans).length : Int)) (4:Int)).bind fun t840 => (((loopO (locks_Lay_l3 a1) (t840, (0:Int)))).bind (locks_Lay_j2 a1)))
noncomputable def locks_Lay (a0 : octet_Writer) (a1 : api_Hold) : Option (octet_Writer) :=
  ((octet_Writer_Num a0 a1.ID.Session (8:Int)).bind fun t754 => ((octet_Writer_Num t754 a1.ID.Seq (8:Int)).bind fun t759 => ((octet_Writer_Num t759 a1.Epoch (8:Int)).bind fun t764 => ((octet_Writer_Num t764 (IntKind.u64.wrap ((a1.Gets).length : Int)) (4:Int)).bind fun t769 => (((loopO (locks_Lay_l1 a1) (t769, (0:Int)))).bind (locks_Lay_j0 a1))))))

noncomputable def locks_Table_Encode_l0 (t553 : (Int)) (t547 : (octet_Writer)) (_s : Unit) : Option (Unit ⊕ ((List Int))) :=
  (bif (decide ((0:Int) < t553)) then none else (inrO ((octet_Writer_Done t547).bind fun t568 => (some t568))))
noncomputable def locks_Table_Encode_l1 (t593 : (Int)) (o0 : locks_Table) (s : (octet_Writer × Int)) : Option ((octet_Writer × Int) ⊕ ((List Int))) :=
  match s with | (z658, z659) => (bif (decide (z659 < t593)) then ((geto o0.l z659).bind fun x672 => ((locks_Lay z658 x672).bind fun t692 => (some (Sum.inl (t692, (IntKind.i64.wrap (z659 + (1:Int)))))))) else (inrO ((octet_Writer_Done z658).bind fun t697 => (some t697))))
noncomputable def locks_Table_Encode (a0 : (Option locks_Table)) : Option ((List Int)) :=
  (match a0 with | none => ((locks_Table_Len none).bind fun t542 => ((octet_Writer_Num ({ p := [] } : octet_Writer) (IntKind.u64.wrap t542) (4:Int)).bind fun t547 => ((locks_Table_Len none).bind fun t553 => (loopO (locks_Table_Encode_l0 t553 t547) ())))) | some o0 => ((locks_Table_Len (some o0)).bind fun t583 => ((octet_Writer_Num ({ p := [] } : octet_Writer) (IntKind.u64.wrap t583) (4:Int)).bind fun t588 => ((locks_Table_Len (some o0)).bind fun t593 => (loopO (locks_Table_Encode_l1 t593 o0) (t588, (0:Int)))))))

noncomputable def locks_Decode_j2 (z590 : locks_Table) (t602 : (api_Hold × octet_Reader)) (z591 : Int) (_s : Unit) : Option ((octet_Reader × locks_Table × Int) ⊕ ((octet_Reader × locks_Table) ⊕ (Option locks_Table × Int))) :=
  (gd (room z590.l ([t602.1])) (some (Sum.inl (t602.2, ({ l := (z590.l ++ ([t602.1])) } : locks_Table), (IntKind.i64.wrap (z591 + (1:Int)))))))
noncomputable def locks_Decode_l1 (t395 : (Int × octet_Reader)) (s : (octet_Reader × locks_Table × Int)) : Option ((octet_Reader × locks_Table × Int) ⊕ ((octet_Reader × locks_Table) ⊕ (Option locks_Table × Int))) :=
  match s with | (z589, z590, z591) => (bif (decide (z591 < t395.1)) then ((locks_Read z589).bind fun t602 => (joinO (bif (decide (z591 > (0:Int))) then ((geto z590.l (IntKind.i64.wrap (z591 - (1:Int)))).bind fun x632 => ((locks_compare x632 t602.1.ID).bind fun t652 => (bif (decide (t652 ≥ (0:Int))) then (inrO (inrO (inrO (some (none, (5:Int)))))) else (some (Sum.inl ()))))) else (some (Sum.inl ()))) (locks_Decode_j2 z590 t602 z591))) else (inrO (some (Sum.inl (z589, z590)))))
noncomputable def locks_Decode_j0 (a0 : (List Int)) (s : (octet_Reader × locks_Table)) : Option (Option locks_Table × Int) :=
  match s with | (z694, z695) => ((octet_Reader_End z694).bind fun t703 => (bif (!t703) then (some (none, (5:Int))) else ((locks_Table_Encode (some z695)).bind fun t710 => ((slices_Equal_byte_byte t710 a0).bind fun t719 => (bif (!t719) then (some (none, (5:Int))) else (some ((some z695), (0:Int))))))))
noncomputable def locks_Decode (a0 : (List Int)) : Option (Option locks_Table × Int) :=
  ((octet_Read a0).bind fun t376 => (locks_New.bind fun t383 => (joinO ((octet_Reader_Left t376).bind fun t390 => ((octet_Reader_Count t376 t390).bind fun t395 => (loopO (locks_Decode_l1 t395) (t395.2, t383, (0:Int))))) (locks_Decode_j0 a0))))

noncomputable def law12_LocksJunk_l2 (s : (ref12_Tape × locks_Table × Int)) : Option ((ref12_Tape × locks_Table × Int) ⊕ (locks_Table)) :=
  match s with | (z340, z341, z342) => (bif (decide (z342 < (6:Int))) then ((ref12_Tape_Hold z340).bind fun t353 => ((locks_Table_Take (some z341) t353.1).bind fun t374 => (match t374.2 with | none => none | some y379 => (some (Sum.inl (t353.2, y379, (IntKind.i64.wrap (z342 + (1:Int))))))))) else (inrO (some z341)))
noncomputable def law12_LocksJunk_j1 (a2 : Int) (a3 : Int) (z381 : (locks_Table)) : Option (Bool) :=
  ((locks_Table_Encode (some z381)).bind fun t389 => (gd (!(((t389).length : Int) == (0:Int))) ((geto t389 (Int.tmod (IntKind.i64.wrap a2) ((t389).length : Int))).bind fun x397 => ((locks_Decode (t389.set (Int.tmod (IntKind.i64.wrap a2) ((t389).length : Int)).toNat (bXor .u8 x397 a3))).bind fun t409 => (bif (t409.2 == (0:Int)) then ((locks_Table_Encode t409.1).bind fun t417 => (bif (sEq (toStr t417) (toStr (t389.set (Int.tmod (IntKind.i64.wrap a2) ((t389).length : Int)).toNat (bXor .u8 x397 a3)))) then (some true) else (bif (t409.2 == (5:Int)) then (some (t409.1.isNone)) else (some false)))) else (bif (t409.2 == (5:Int)) then (some (t409.1.isNone)) else (some false)))))))
noncomputable def law12_LocksJunk_j0 (a1 : (List Int)) (a2 : Int) (a3 : Int) (_s : Unit) : Option (Bool) :=
  (locks_New.bind fun t272 => (((loopO (law12_LocksJunk_l2) (({ L := a1, I := (0:Int) } : ref12_Tape), t272, (0:Int)))).bind (law12_LocksJunk_j1 a2 a3)))
noncomputable def law12_LocksJunk (a0 : (List Int)) (a1 : (List Int)) (a2 : Int) (a3 : Int) : Option (Bool) :=
  (law12_awake.bind fun t216 => (bif (!t216) then (law12_awake.bind fun t222 => (some t222)) else (bif (decide (((a0).length : Int) > (1000:Int))) then (law12_awake.bind fun t228 => (some t228)) else (bif (decide (((a1).length : Int) > (300:Int))) then (law12_awake.bind fun t234 => (some t234)) else ((locks_Decode a0).bind fun t239 => (joinO (bif (t239.2 == (0:Int)) then ((locks_Table_Encode t239.1).bind fun t247 => (bif (!(sEq (toStr t247) (toStr a0))) then (inrO (some false)) else (bif (t239.2 != (0:Int)) then (bif (t239.2 != (5:Int)) then (inrO (some false)) else (bif (!(t239.1.isNone)) then (inrO (some false)) else (some (Sum.inl ())))) else (some (Sum.inl ()))))) else (bif (t239.2 != (0:Int)) then (bif (t239.2 != (5:Int)) then (inrO (some false)) else (bif (!(t239.1.isNone)) then (inrO (some false)) else (some (Sum.inl ())))) else (some (Sum.inl ())))) (law12_LocksJunk_j0 a1 a2 a3)))))))

noncomputable def ref02_Num_l0 (a2 : Int) (s : (Int × (List Int) × Int)) : Option ((Int × (List Int) × Int) ⊕ ((List Int))) :=
  match s with | (z204, z205, z208) => (bif (decide (z208 < a2)) then (gd (room z205 ([(IntKind.u8.wrap (bAnd .u64 z204 (255:Int)))])) (some (Sum.inl ((iShr .u64 z204 (8:Int)), (z205 ++ ([(IntKind.u8.wrap (bAnd .u64 z204 (255:Int)))])), (IntKind.i64.wrap (z208 + (1:Int))))))) else (inrO (some z205)))
noncomputable def ref02_Num (a0 : (List Int)) (a1 : Int) (a2 : Int) : Option ((List Int)) :=
  (gd (room ([] : List Int) a0) (loopO (ref02_Num_l0 a2) (a1, a0, (0:Int))))

noncomputable def ref12_ID (a0 : (List Int)) (a1 : api_ID) : Option ((List Int)) :=
  ((ref02_Num a0 a1.Session (8:Int)).bind fun t133 => ((ref02_Num t133 a1.Seq (8:Int)).bind fun t142 => (some t142)))

noncomputable def ref01_Rank (a0 : Nat) : Option (Int) :=
  (bif (fNe a0 a0) then (some (18446744073709551615:Int)) else (bif (decide ((Int.ofNat a0) ≥ (9223372036854775808:Int))) then (some (IntKind.u64.wrap ((18446744073709551615:Int) - (Int.ofNat a0)))) else (some (IntKind.u64.wrap ((Int.ofNat a0) + (9223372036854775808:Int))))))

noncomputable def ref02_Bytes (a0 : (List Int)) (a1 : (List Int)) : Option ((List Int)) :=
  ((ref02_Num a0 (IntKind.u64.wrap ((a1).length : Int)) (4:Int)).bind fun t458 => (gd (room t458 a1) (some (t458 ++ a1))))

noncomputable def ref12_Hold_l1 (a1 : api_Hold) (s : ((List Int) × Int)) : Option (((List Int) × Int) ⊕ ((List Int))) :=
  match s with | (z529, z532) => (bif (decide (z532 < ((a1.Gets).length : Int))) then ((geto a1.Gets z532).bind fun x542 => ((ref01_Rank x542).bind fun t547 => ((ref02_Num z529 t547 (8:Int)).bind fun t554 => (some (Sum.inl (t554, (IntKind.i64.wrap (z532 + (1:Int))))))))) else (inrO (some z529)))
noncomputable def ref12_Hold_l3 (a1 : api_Hold) (s : ((List Int) × Int)) : Option (((List Int) × Int) ⊕ ((List Int))) :=
  match s with | (z650, z653) => (bif (decide (z653 < ((a1.Scans).length : Int))) then ((geto a1.Scans z653).bind fun x663 => ((ref01_Rank x663.1).bind fun t668 => ((ref02_Num z650 t668 (8:Int)).bind fun t675 => ((ref01_Rank x663.2).bind fun t682 => ((ref02_Num t675 t682 (8:Int)).bind fun t689 => (some (Sum.inl (t689, (IntKind.i64.wrap (z653 + (1:Int))))))))))) else (inrO (some z650)))
noncomputable def ref12_Hold_l5 (a1 : api_Hold) (s : ((List Int) × Int)) : Option (((List Int) × Int) ⊕ ((List Int))) :=
  match s with | (z757, z760) => (bif (decide (z760 < ((a1.Puts).length : Int))) then ((geto a1.Puts z760).bind fun x770 => ((ref01_Rank x770).bind fun t775 => ((ref02_Num z757 t775 (8:Int)).bind fun t782 => (some (Sum.inl (t782, (IntKind.i64.wrap (z760 + (1:Int))))))))) else (inrO (some z757)))
noncomputable def ref12_Hold_j4 (a1 : api_Hold) (z791 : ((List Int))) : Option ((List Int)) :=
  ((ref02_Bytes z791 a1.Data).bind fun t799 => (some t799))
noncomputable def ref12_Hold_j2 (a1 : api_Hold) (z698 : ((List Int))) : Option ((List Int)) :=
  ((ref02_Num z698 (IntKind.u64.wrap ((a1.Puts).length : Int)) (4:Int)).bind fun t706 => (((loopO (ref12_Hold_l5 a1) (t706, (0:Int)))).bind (ref12_Hold_j4 a1)))
noncomputable def ref12_Hold_j0 (a1 : api_Hold) (z563 : ((List Int))) : Option ((List Int)) :=
  ((ref02_Num z563 (IntKind.u64.wrap ((a1.Scans).length : Int)) (4:Int)).bind fun t571 => (((loopO (ref12_Hold_l3 a1) (t571, (0:Int)))).bind (ref12_Hold_j2 a1)))
noncomputable def ref12_Hold (a0 : (List Int)) (a1 : api_Hold) : Option ((List Int)) :=
  ((ref12_ID a0 a1.ID).bind fun t460 => ((ref02_Num t460 a1.Epoch (8:Int)).bind fun t469 => ((ref02_Num t469 (IntKind.u64.wrap ((a1.Gets).length : Int)) (4:Int)).bind fun t478 => (((loopO (ref12_Hold_l1 a1) (t478, (0:Int)))).bind (ref12_Hold_j0 a1)))))

noncomputable def law12_LocksBytes_l1 (s : (ref12_Tape × locks_Table × Int)) : Option ((ref12_Tape × locks_Table × Int) ⊕ (locks_Table)) :=
  match s with | (z722, z723, z724) => (bif (decide (z724 < (8:Int))) then ((ref12_Tape_Hold z722).bind fun t735 => ((locks_Table_Take (some z723) t735.1).bind fun t756 => (match t756.2 with | none => none | some y761 => (some (Sum.inl (t735.2, y761, (IntKind.i64.wrap (z724 + (1:Int))))))))) else (inrO (some z723)))
noncomputable def law12_LocksBytes_l3 (t789 : ((List api_ID))) (z763 : locks_Table) (s : ((List api_Hold) × Int)) : Option (((List api_Hold) × Int) ⊕ ((List api_Hold))) :=
  match s with | (z944, z947) => (bif (decide (z947 < ((t789).length : Int))) then ((geto t789 z947).bind fun x958 => ((locks_Table_Get (some z763) x958).bind fun t963 => (gd (room z944 ([t963.1])) (some (Sum.inl ((z944 ++ ([t963.1])), (IntKind.i64.wrap (z947 + (1:Int))))))))) else (inrO (some z944)))
noncomputable def law12_LocksBytes_j2 (t781 : (Option locks_Table × Int)) (z763 : locks_Table) (z1007 : ((List api_Hold))) : Option (Bool) :=
  (bif (t781.2 == (0:Int)) then ((law12_told t781.1 z1007).bind fun t1019 => (bif t1019 then ((locks_Table_Encode t781.1).bind fun t1025 => ((locks_Table_Encode (some z763)).bind fun t1032 => (some (sEq (toStr t1025) (toStr t1032))))) else (some false))) else (some false))
noncomputable def law12_LocksBytes_j0 (z763 : (locks_Table)) : Option (Bool) :=
  ((locks_Table_Encode (some z763)).bind fun t771 => ((locks_Decode t771).bind fun t781 => ((locks_Table_All (some z763)).bind fun t789 => (((loopO (law12_LocksBytes_l3 t789 z763) ([], (0:Int)))).bind (law12_LocksBytes_j2 t781 z763)))))
noncomputable def law12_LocksBytes (a0 : api_Hold) (a1 : (List Int)) : Option (Bool) :=
  (law12_awake.bind fun t530 => (bif (!t530) then (law12_awake.bind fun t536 => (some t536)) else ((law12_short a0).bind fun t541 => (bif (!t541) then (law12_awake.bind fun t547 => (some t547)) else (bif (decide (((a1).length : Int) > (300:Int))) then (law12_awake.bind fun t553 => (some t553)) else ((locks_Lay ({ p := [] } : octet_Writer) a0).bind fun t565 => ((octet_Writer_Done t565).bind fun t570 => ((octet_Read t570).bind fun t580 => ((locks_Read t580).bind fun t587 => ((ref12_Hold ([]) a0).bind fun t613 => (bif (!(sEq (toStr t570) (toStr t613))) then (some false) else ((octet_Reader_End t587.2).bind fun t621 => (bif (!t621) then (some false) else ((ref11_SameHold t587.1 a0).bind fun t635 => (bif (!t635) then (some false) else (locks_New.bind fun t647 => ((locks_Table_Take (some t647) a0).bind fun t654 => (match t654.2 with | none => none | some y659 => (((loopO (law12_LocksBytes_l1) (({ L := a1, I := (0:Int) } : ref12_Tape), y659, (0:Int)))).bind (law12_LocksBytes_j0))))))))))))))))))))
end Go.Proofs.Ytbdhhmnncknhhaa
