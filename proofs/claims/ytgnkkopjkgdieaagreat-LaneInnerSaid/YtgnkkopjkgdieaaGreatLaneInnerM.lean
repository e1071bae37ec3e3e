/- The models of the Go functions: plain Lean, no memory. -/
import Derived.Test.YtgnkkopjkgdieaaGreatLaneInnerGv
set_option linter.unusedVariables false
set_option linter.unusedSimpArgs false
set_option maxRecDepth 100000
set_option maxHeartbeats 4000000
namespace Go.Proofs.YtgnkkopjkgdieaaGreat
open Go Go.V
structure mvcc_Version where
  Epoch : Int
  Index : Int
  Del : Bool
  Val : (List Int)

structure mvcc_row where
  rank : Int
  l : (List mvcc_Version)

structure mvcc_Store where
  rows : (List mvcc_row)

structure api_ID where
  Session : Int
  Seq : Int

structure api_Hold where
  ID : api_ID
  Epoch : Int
  Gets : (List Nat)
  Scans : (List (Nat × Nat))
  Puts : (List Nat)
  Data : (List Int)

structure locks_Table where
  l : (List api_Hold)

structure api_Got where
  Has : Bool
  Val : (List Int)

structure api_Pair where
  At : Nat
  Val : (List Int)

structure api_Reply where
  E : Int
  Epoch : Int
  Index : Int
  Gots : (List api_Got)
  Scans : (List (List api_Pair))

structure session_row where
  session : Int
  seq : Int
  r : api_Reply

structure session_Table where
  l : (List session_row)

structure api_Rule where
  ID : Int
  From : Int
  To : Int
  Lo : Nat
  Hi : Nat
  Authority : Int
  Quota : Int

structure policy_line where
  r : api_Rule
  from_ : Int
  to_ : Int

structure policy_Book where
  l : (List policy_line)

structure api_Write where
  At : Nat
  Del : Bool
  Val : (List Int)

structure api_Part where
  Shard : Int
  Writes : (List api_Write)

structure api_Decision where
  ID : api_ID
  E : Int
  Epoch : Int
  Index : Int
  Shards : Int
  Parts : (List api_Part)

structure api_Item where
  To : Int
  N : Int
  Rule : Int
  Epoch : Int
  W : api_Write

structure lane_used where
  rule : Int
  epoch : Int
  n : Int

structure lane_State where
  wide : Int
  epoch : Int
  store : (Option mvcc_Store)
  locks : (Option locks_Table)
  last : (Option session_Table)
  book : (Option policy_Book)
  open_ : (List api_Decision)
  out : (List api_Item)
  used : (List lane_used)

structure api_Command where
  Kind : Int
  ID : api_ID
  Epoch : Int
  Index : Int
  E : Int
  Hold : api_Hold
  Writes : (List api_Write)
  R : api_Reply
  Shards : Int
  Parts : (List api_Part)
  Rule : api_Rule
  On : Bool

structure api_Effect where
  Kind : Int
  ID : api_ID
  R : api_Reply

def zero_api_Reply : api_Reply := { E := (0:Int), Epoch := (0:Int), Index := (0:Int), Gots := [], Scans := [] }

def zero_api_Effect : api_Effect := { Kind := (0:Int), ID := ({ Session := (0:Int), Seq := (0:Int) } : api_ID), R := zero_api_Reply }

def zero_api_Hold : api_Hold := { ID := ({ Session := (0:Int), Seq := (0:Int) } : api_ID), Epoch := (0:Int), Gets := [], Scans := [], Puts := [], Data := [] }

def zero_api_Rule : api_Rule := { ID := (0:Int), From := (0:Int), To := (0:Int), Lo := (0:Nat), Hi := (0:Nat), Authority := (0:Int), Quota := (0:Int) }

noncomputable def mvcc_New : Option (mvcc_Store) :=
  (some ({ rows := [] } : mvcc_Store))

noncomputable def locks_New : Option (locks_Table) :=
  (some ({ l := [] } : locks_Table))

noncomputable def session_New : Option (session_Table) :=
  (some ({ l := [] } : session_Table))

noncomputable def policy_New : Option (policy_Book) :=
  (some ({ l := [] } : policy_Book))

noncomputable def lane_New (a0 : Int) : Option (lane_State) :=
  (mvcc_New.bind fun t56 => (locks_New.bind fun t63 => (session_New.bind fun t70 => (policy_New.bind fun t77 => (some ({ wide := a0, epoch := (1:Int), store := (some t56), locks := (some t63), last := (some t70), book := (some t77), open_ := [], out := [], used := [] } : lane_State))))))

noncomputable def locks_Table_Until_l0 (o0 : locks_Table) (a1 : Int) (z309 : (Int)) : Option ((Int) ⊕ (Int)) :=
  (bif (decide (z309 < ((o0.l).length : Int))) then ((geto o0.l z309).bind fun x319 => ((some ()).bind fun _ => (bif (decide (x319.Epoch ≤ a1)) then (inrO (some z309)) else (some (Sum.inl (IntKind.i64.wrap (z309 + (1:Int)))))))) else (inrO (some ((-1):Int))))
noncomputable def locks_Table_Until (a0 : (Option locks_Table)) (a1 : Int) : Option (Bool) :=
  (match a0 with | none => (some false) | some o0 => (((loopO (locks_Table_Until_l0 o0 a1) (0:Int)).bind fun z349 => (some (decide (z349 ≥ (0:Int))))).bind fun z354 => (some z354)))

noncomputable def lane_State_May (a0 : (Option lane_State)) : Option (Bool) :=
  (match a0 with | none => (some false) | some o0 => ((locks_Table_Until o0.locks o0.epoch).bind fun t141 => (some (!t141))))

noncomputable def slices_Clone_mvcc_Version_mvcc_Version (a0 : (List mvcc_Version)) : Option ((List mvcc_Version)) :=
  gd (room ([] : (List mvcc_Version)) a0) (some a0)

noncomputable def mvcc_Store_Trim_l2 (x1255 : mvcc_row) (a1 : Int) (s : (Int × Int)) : Option ((Int × Int) ⊕ (Int)) :=
  match s with | (z1312, z1313) => (bif (decide (z1312 < z1313)) then (((geto x1255.l (IntKind.i64.wrap (iShr .u64 (IntKind.u64.wrap (IntKind.i64.wrap (z1312 + z1313))) (1:Int)))).bind fun x1323 => (some (decide (x1323.Epoch > a1)))).bind fun z1334 => (bif (!z1334) then (some (Sum.inl ((IntKind.i64.wrap ((IntKind.i64.wrap (iShr .u64 (IntKind.u64.wrap (IntKind.i64.wrap (z1312 + z1313))) (1:Int))) + (1:Int))), z1313))) else (some (Sum.inl (z1312, (IntKind.i64.wrap (iShr .u64 (IntKind.u64.wrap (IntKind.i64.wrap (z1312 + z1313))) (1:Int)))))))) else (inrO (some z1312)))
noncomputable def mvcc_Store_Trim_j3 (z1243 : (List mvcc_row)) (x1255 : mvcc_row) (z1242 : Int) (z1378 : ((List mvcc_Version))) : Option ((Int × (List mvcc_row)) ⊕ ((List mvcc_row))) :=
  (bif (decide (((z1378).length : Int) > (0:Int))) then (gd (room z1243 ([({ rank := x1255.rank, l := z1378 } : mvcc_row)])) (some (Sum.inl ((IntKind.i64.wrap (z1242 + (1:Int))), (z1243 ++ ([({ rank := x1255.rank, l := z1378 } : mvcc_row)])))))) else (some (Sum.inl ((IntKind.i64.wrap (z1242 + (1:Int))), z1243))))
noncomputable def mvcc_Store_Trim_l1 (o0 : mvcc_Store) (a1 : Int) (s : (Int × (List mvcc_row))) : Option ((Int × (List mvcc_row)) ⊕ ((List mvcc_row))) :=
  match s with | (z1242, z1243) => (bif (decide (z1242 < ((o0.rows).length : Int))) then ((geto o0.rows z1242).bind fun x1255 => ((loopO (mvcc_Store_Trim_l2 x1255 a1) ((0:Int), ((x1255.l).length : Int))).bind fun z1340 => (gd (fits x1255.l (if (0:Int) > (IntKind.i64.wrap (z1340 - (1:Int))) then (0:Int) else (IntKind.i64.wrap (z1340 - (1:Int)))) (((x1255.l).length : Nat) : Int)) ((slices_Clone_mvcc_Version_mvcc_Version (subs x1255.l (if (0:Int) > (IntKind.i64.wrap (z1340 - (1:Int))) then (0:Int) else (IntKind.i64.wrap (z1340 - (1:Int)))) (((x1255.l).length : Nat) : Int))).bind fun t1351 => (((bif (decide (z1340 > (0:Int))) then ((geto t1351 (0:Int)).bind fun x1359 => (bif x1359.Del then (gd (fits t1351 (1:Int) (((t1351).length : Nat) : Int)) (some (subs t1351 (1:Int) (((t1351).length : Nat) : Int)))) else (some t1351))) else (some t1351))).bind (mvcc_Store_Trim_j3 z1243 x1255 z1242)))))) else (inrO (some z1243)))
noncomputable def mvcc_Store_Trim_j0 (z1401 : ((List mvcc_row))) : Option ((Option mvcc_Store)) :=
  (some (some ({ rows := z1401 } : mvcc_Store)))
noncomputable def mvcc_Store_Trim (a0 : (Option mvcc_Store)) (a1 : Int) : Option ((Option mvcc_Store)) :=
  (match a0 with | none => (some none) | some o0 => (((loopO (mvcc_Store_Trim_l1 o0 a1) ((0:Int), []))).bind (mvcc_Store_Trim_j0)))

noncomputable def lane_State_shut (a0 : (Option lane_State)) (a1 : api_Command) : Option (api_Effect × (Option lane_State)) :=
  (match a0 with | none => none | some o0 => (bif (a1.Epoch != o0.epoch) then (some (zero_api_Effect, (some o0))) else ((lane_State_May (some o0)).bind fun t231 => (bif (!t231) then (some (zero_api_Effect, (some o0))) else (bif (decide ((IntKind.u64.wrap (o0.epoch + (1:Int))) > (9:Int))) then ((mvcc_Store_Trim o0.store (IntKind.u64.wrap ((IntKind.u64.wrap ((IntKind.u64.wrap (o0.epoch + (1:Int))) - (1:Int))) - (8:Int)))).bind fun t260 => (some (({ Kind := (1:Int), ID := ({ Session := (0:Int), Seq := (0:Int) } : api_ID), R := zero_api_Reply } : api_Effect), (some ({ wide := o0.wide, epoch := (IntKind.u64.wrap (o0.epoch + (1:Int))), store := t260, locks := o0.locks, last := o0.last, book := o0.book, open_ := o0.open_, out := o0.out, used := o0.used } : lane_State))))) else (some (({ Kind := (1:Int), ID := ({ Session := (0:Int), Seq := (0:Int) } : api_ID), R := zero_api_Reply } : api_Effect), (some ({ wide := o0.wide, epoch := (IntKind.u64.wrap (o0.epoch + (1:Int))), store := o0.store, locks := o0.locks, last := o0.last, book := o0.book, open_ := o0.open_, out := o0.out, used := o0.used } : lane_State)))))))))

noncomputable def cmp_isNaN_uint64 (a0 : Int) : Option (Bool) :=
  (some (a0 != a0))

noncomputable def cmp_Compare_uint64 (a0 : Int) (a1 : Int) : Option (Int) :=
  ((cmp_isNaN_uint64 a0).bind fun t245 => ((cmp_isNaN_uint64 a1).bind fun t250 => (bif t245 then (bif t250 then (some (0:Int)) else (some ((-1):Int))) else (bif t250 then (some (1:Int)) else (bif (decide (a0 < a1)) then (some ((-1):Int)) else (bif (decide (a0 > a1)) then (some (1:Int)) else (some (0:Int))))))))

noncomputable def cmp_Or_int_l0 (a0 : (List Int)) (z278 : (Int)) : Option ((Int) ⊕ (Int)) :=
  (bif (decide (z278 < ((a0).length : Int))) then ((geto a0 z278).bind fun x288 => (bif (x288 != (0:Int)) then (inrO (some x288)) else (some (Sum.inl (IntKind.i64.wrap (z278 + (1:Int))))))) else (inrO (some (0:Int))))
noncomputable def cmp_Or_int (a0 : (List Int)) : Option (Int) :=
  (loopO (cmp_Or_int_l0 a0) (0:Int))

noncomputable def locks_compare (a0 : api_Hold) (a1 : api_ID) : Option (Int) :=
  ((cmp_Compare_uint64 a0.ID.Session a1.Session).bind fun t266 => ((cmp_Compare_uint64 a0.ID.Seq a1.Seq).bind fun t271 => ((cmp_Or_int ([t266, t271])).bind fun t283 => (some t283))))

noncomputable def locks_Table_find_l1 (o0 : locks_Table) (a1 : api_ID) (s : (Int × Int)) : Option ((Int × Int) ⊕ (Int)) :=
  match s with | (z411, z412) => (bif (decide (z412 < z411)) then ((geto o0.l (IntKind.i64.wrap (iShr .u64 (IntKind.u64.wrap (IntKind.i64.wrap (z412 + z411))) (1:Int)))).bind fun x424 => ((locks_compare x424 a1).bind fun t444 => (bif (decide (t444 < (0:Int))) then (some (Sum.inl (z411, (IntKind.i64.wrap ((IntKind.i64.wrap (iShr .u64 (IntKind.u64.wrap (IntKind.i64.wrap (z412 + z411))) (1:Int))) + (1:Int)))))) else (some (Sum.inl ((IntKind.i64.wrap (iShr .u64 (IntKind.u64.wrap (IntKind.i64.wrap (z412 + z411))) (1:Int))), z412)))))) else (inrO (some z412)))
noncomputable def locks_Table_find_j0 (o0 : locks_Table) (a1 : api_ID) (z450 : (Int)) : Option (Int × Bool) :=
  (bif (decide (z450 < ((o0.l).length : Int))) then ((geto o0.l z450).bind fun x459 => ((locks_compare x459 a1).bind fun t479 => (some (z450, (t479 == (0:Int)))))) else (some (z450, false)))
noncomputable def locks_Table_find (a0 : (Option locks_Table)) (a1 : api_ID) : Option (Int × Bool) :=
  (match a0 with | none => (some ((0:Int), false)) | some o0 => ((((loopO (locks_Table_find_l1 o0 a1) (((o0.l).length : Int), (0:Int)))).bind (locks_Table_find_j0 o0 a1)).bind fun (z484, z485) => (some (z484, z485))))

noncomputable def locks_Table_Get (a0 : (Option locks_Table)) (a1 : api_ID) : Option (api_Hold × Bool) :=
  (match a0 with | none => ((locks_Table_find none a1).bind fun t254 => (bif (!t254.2) then (some (zero_api_Hold, false)) else none)) | some o0 => ((locks_Table_find (some o0) a1).bind fun t284 => (bif (!t284.2) then (some (zero_api_Hold, false)) else ((geto o0.l t284.1).bind fun x303 => (some (x303, true))))))

noncomputable def math_IsNaN (a0 : Nat) : Option (Bool) :=
  (some (fNe a0 a0))

noncomputable def number_Rank (a0 : Nat) : Option (Int) :=
  ((math_IsNaN a0).bind fun t284 => (bif t284 then (some (18446744073709551615:Int)) else (bif ((iShr .u64 (Int.ofNat a0) (63:Int)) == (1:Int)) then (some (bXor .u64 ((18446744073709551615):Int) (Int.ofNat a0))) else (some (bOr .u64 (Int.ofNat a0) (9223372036854775808:Int))))))

noncomputable def number_Same (a0 : Nat) (a1 : Nat) : Option (Bool) :=
  ((number_Rank a0).bind fun t287 => ((number_Rank a1).bind fun t292 => (some (t287 == t292))))

noncomputable def locks_Same_1 (a0 : (Nat × Nat)) (a1 : (Nat × Nat)) : Option (Bool) :=
  ((number_Same a0.1 a1.1).bind fun t390 => (bif t390 then ((number_Same a0.2 a1.2).bind fun t396 => (some t396)) else (some false)))

noncomputable def slices_Equal_byte_byte_l0 (a0 : (List Int)) (a1 : (List Int)) (z588 : (Int)) : Option ((Int) ⊕ (Bool)) :=
  (bif (decide (z588 < ((a0).length : Int))) then ((geto a0 z588).bind fun x598 => ((geto a1 z588).bind fun x603 => (bif (x598 != x603) then (inrO (some false)) else (some (Sum.inl (IntKind.i64.wrap (z588 + (1:Int)))))))) else (inrO (some true)))
noncomputable def slices_Equal_byte_byte (a0 : (List Int)) (a1 : (List Int)) : Option (Bool) :=
  (bif (((a0).length : Int) != ((a1).length : Int)) then (some false) else (loopO (slices_Equal_byte_byte_l0 a0 a1) (0:Int)))

noncomputable def locks_Same_l0 (a0 : api_Hold) (a1 : api_Hold) (z572 : (Int)) : Option ((Int) ⊕ (Bool)) :=
  (bif (decide (z572 < ((a0.Gets).length : Int))) then ((geto a0.Gets z572).bind fun x582 => ((geto a1.Gets z572).bind fun x587 => ((number_Same x582 x587).bind fun t592 => (bif (!t592) then (inrO (some false)) else (some (Sum.inl (IntKind.i64.wrap (z572 + (1:Int))))))))) else (inrO (some true)))
noncomputable def locks_Same_l1 (a0 : api_Hold) (a1 : api_Hold) (z668 : (Int)) : Option ((Int) ⊕ (Bool)) :=
  (bif (decide (z668 < ((a0.Scans).length : Int))) then ((geto a0.Scans z668).bind fun x678 => ((geto a1.Scans z668).bind fun x690 => ((locks_Same_1 x678 x690).bind fun t702 => (bif (!t702) then (inrO (some false)) else (some (Sum.inl (IntKind.i64.wrap (z668 + (1:Int))))))))) else (inrO (some true)))
noncomputable def locks_Same_l2 (a0 : api_Hold) (a1 : api_Hold) (z750 : (Int)) : Option ((Int) ⊕ (Bool)) :=
  (bif (decide (z750 < ((a0.Puts).length : Int))) then ((geto a0.Puts z750).bind fun x760 => ((geto a1.Puts z750).bind fun x765 => ((number_Same x760 x765).bind fun t770 => (bif (!t770) then (inrO (some false)) else (some (Sum.inl (IntKind.i64.wrap (z750 + (1:Int))))))))) else (inrO (some true)))
noncomputable def locks_Same (a0 : api_Hold) (a1 : api_Hold) : Option (Bool) :=
  (bif ((a0.ID.Session == a1.ID.Session) && (a0.ID.Seq == a1.ID.Seq)) then (bif (a0.Epoch == a1.Epoch) then ((bif (((a0.Gets).length : Int) != ((a1.Gets).length : Int)) then (some false) else (loopO (locks_Same_l0 a0 a1) (0:Int))).bind fun z598 => (bif z598 then ((bif (((a0.Scans).length : Int) != ((a1.Scans).length : Int)) then (some false) else (loopO (locks_Same_l1 a0 a1) (0:Int))).bind fun z708 => (bif z708 then ((bif (((a0.Puts).length : Int) != ((a1.Puts).length : Int)) then (some false) else (loopO (locks_Same_l2 a0 a1) (0:Int))).bind fun z776 => (bif z776 then ((slices_Equal_byte_byte a0.Data a1.Data).bind fun t782 => (some t782)) else (some false))) else (some false))) else (some false))) else (some false)) else (some false))

noncomputable def number_Within (a0 : Nat) (a1 : Nat) (a2 : Nat) : Option (Bool) :=
  ((number_Rank a1).bind fun t412 => ((number_Rank a0).bind fun t417 => (bif (decide (t412 ≤ t417)) then ((number_Rank a0).bind fun t423 => ((number_Rank a2).bind fun t428 => (some (decide (t423 ≤ t428))))) else (some false))))

noncomputable def locks_writes_l0 (a0 : api_Hold) (a1 : Nat) (a2 : Nat) (z510 : (Int)) : Option ((Int) ⊕ (Int)) :=
  (bif (decide (z510 < ((a0.Puts).length : Int))) then ((geto a0.Puts z510).bind fun x520 => (((number_Within x520 a1 a2).bind fun t525 => (some t525)).bind fun z530 => (bif z530 then (inrO (some z510)) else (some (Sum.inl (IntKind.i64.wrap (z510 + (1:Int)))))))) else (inrO (some ((-1):Int))))
noncomputable def locks_writes (a0 : api_Hold) (a1 : Nat) (a2 : Nat) : Option (Bool) :=
  (((loopO (locks_writes_l0 a0 a1 a2) (0:Int)).bind fun z536 => (some (decide (z536 ≥ (0:Int))))).bind fun z541 => (some z541))

noncomputable def locks_reads_l0 (a0 : api_Hold) (a1 : Nat) (z593 : (Int)) : Option ((Int) ⊕ (Int)) :=
  (bif (decide (z593 < ((a0.Gets).length : Int))) then ((geto a0.Gets z593).bind fun x603 => (((number_Same a1 x603).bind fun t608 => (some t608)).bind fun z613 => (bif z613 then (inrO (some z593)) else (some (Sum.inl (IntKind.i64.wrap (z593 + (1:Int)))))))) else (inrO (some ((-1):Int))))
noncomputable def locks_reads_l1 (a0 : api_Hold) (a1 : Nat) (z675 : (Int)) : Option ((Int) ⊕ (Int)) :=
  (bif (decide (z675 < ((a0.Scans).length : Int))) then ((geto a0.Scans z675).bind fun x685 => (((number_Within a1 x685.1 x685.2).bind fun t695 => (some t695)).bind fun z700 => (bif z700 then (inrO (some z675)) else (some (Sum.inl (IntKind.i64.wrap (z675 + (1:Int)))))))) else (inrO (some ((-1):Int))))
noncomputable def locks_reads (a0 : api_Hold) (a1 : Nat) : Option (Bool) :=
  (((loopO (locks_reads_l0 a0 a1) (0:Int)).bind fun z619 => (some (decide (z619 ≥ (0:Int))))).bind fun z624 => (bif z624 then (some true) else (((loopO (locks_reads_l1 a0 a1) (0:Int)).bind fun z706 => (some (decide (z706 ≥ (0:Int))))).bind fun z711 => (some z711))))

noncomputable def locks_Meet_l1 (a0 : api_Hold) (a1 : api_Hold) (z530 : (Int)) : Option ((Int) ⊕ (Unit ⊕ (Bool))) :=
  (bif (decide (z530 < ((a0.Puts).length : Int))) then ((geto a0.Puts z530).bind fun x540 => ((locks_writes a1 x540 x540).bind fun t545 => (bif t545 then (inrO (inrO (some true))) else ((locks_reads a1 x540).bind fun t551 => (bif t551 then (inrO (inrO (some true))) else (some (Sum.inl (IntKind.i64.wrap (z530 + (1:Int)))))))))) else (inrO (some (Sum.inl ()))))
noncomputable def locks_Meet_l2 (a1 : api_Hold) (a0 : api_Hold) (z587 : (Int)) : Option ((Int) ⊕ (Bool)) :=
  (bif (decide (z587 < ((a1.Puts).length : Int))) then ((geto a1.Puts z587).bind fun x597 => ((locks_reads a0 x597).bind fun t602 => (bif t602 then (inrO (some true)) else (some (Sum.inl (IntKind.i64.wrap (z587 + (1:Int)))))))) else (inrO (some false)))
noncomputable def locks_Meet_j0 (a1 : api_Hold) (a0 : api_Hold) (_s : Unit) : Option (Bool) :=
  (loopO (locks_Meet_l2 a1 a0) (0:Int))
noncomputable def locks_Meet (a0 : api_Hold) (a1 : api_Hold) : Option (Bool) :=
  (joinO (loopO (locks_Meet_l1 a0 a1) (0:Int)) (locks_Meet_j0 a1 a0))

noncomputable def slices_Clone_float64_float64 (a0 : (List Nat)) : Option ((List Nat)) :=
  gd (room ([] : (List Nat)) a0) (some a0)

noncomputable def slices_Clone_2_float64_2_float64 (a0 : (List (Nat × Nat))) : Option ((List (Nat × Nat))) :=
  gd (room ([] : (List (Nat × Nat))) a0) (some a0)

noncomputable def slices_Clone_byte_byte (a0 : (List Int)) : Option ((List Int)) :=
  gd (room ([] : (List Int)) a0) (some a0)

noncomputable def slices_Insert_api_Hold_api_Hold (a0 : (List api_Hold)) (a1 : Int) (a2 : (List api_Hold)) : Option ((List api_Hold)) :=
  gd (insOK a0 a1 a2) (some (ins a0 a1 a2))

noncomputable def locks_Table_Take_l1 (o0 : locks_Table) (a1 : api_Hold) (z652 : (Int)) : Option ((Int) ⊕ (Unit ⊕ (Int × (Option locks_Table)))) :=
  (bif (decide (z652 < ((o0.l).length : Int))) then ((geto o0.l z652).bind fun x662 => (bif (!((x662.ID.Session == a1.ID.Session) && (x662.ID.Seq == a1.ID.Seq))) then ((locks_Meet x662 a1).bind fun t694 => (bif t694 then (inrO (inrO (some ((8:Int), (some o0))))) else (some (Sum.inl (IntKind.i64.wrap (z652 + (1:Int))))))) else (some (Sum.inl (IntKind.i64.wrap (z652 + (1:Int))))))) else (inrO (some (Sum.inl ()))))
noncomputable def locks_Table_Take_j0 (a1 : api_Hold) (o0 : locks_Table) (_s : Unit) : Option (Int × (Option locks_Table)) :=
  ((slices_Clone_float64_float64 a1.Gets).bind fun t705 => ((slices_Clone_2_float64_2_float64 a1.Scans).bind fun t712 => ((slices_Clone_float64_float64 a1.Puts).bind fun t719 => ((slices_Clone_byte_byte a1.Data).bind fun t726 => ((locks_Table_find (some o0) a1.ID).bind fun t739 => (bif t739.2 then ((geto o0.l t739.1).bind fun x749 => (some ((0:Int), (some ({ l := (o0.l.set t739.1.toNat ({ ID := a1.ID, Epoch := a1.Epoch, Gets := t705, Scans := t712, Puts := t719, Data := t726 } : api_Hold)) } : locks_Table))))) else ((slices_Insert_api_Hold_api_Hold o0.l t739.1 ([({ ID := a1.ID, Epoch := a1.Epoch, Gets := t705, Scans := t712, Puts := t719, Data := t726 } : api_Hold)])).bind fun t810 => (some ((0:Int), (some ({ l := t810 } : locks_Table)))))))))))
noncomputable def locks_Table_Take (a0 : (Option locks_Table)) (a1 : api_Hold) : Option (Int × (Option locks_Table)) :=
  (match a0 with | none => (some ((2:Int), none)) | some o0 => (joinO (loopO (locks_Table_Take_l1 o0 a1) (0:Int)) (locks_Table_Take_j0 a1 o0)))

noncomputable def lane_State_Hold_j1 (o0 : lane_State) (a1 : api_Hold) (_s : Unit) : Option (Int × (Option lane_State)) :=
  ((locks_Table_Take o0.locks a1).bind fun t490 => (some (t490.1, (some ({ wide := o0.wide, epoch := o0.epoch, store := o0.store, locks := t490.2, last := o0.last, book := o0.book, open_ := o0.open_, out := o0.out, used := o0.used } : lane_State)))))
noncomputable def lane_State_Hold_j0 (a1 : api_Hold) (o0 : lane_State) (s : (Int × Int × Int × (List Nat) × (List (Nat × Nat)) × (List Nat) × (List Int) × Bool)) : Option (Int × (Option lane_State)) :=
  match s with | (z400, z401, z402, z405, z409, z413, z417, z419) => (joinO (bif z419 then ((locks_Same ({ ID := ({ Session := z400, Seq := z401 } : api_ID), Epoch := z402, Gets := z405, Scans := z409, Puts := z413, Data := z417 } : api_Hold) a1).bind fun t428 => (bif t428 then (inrO (some ((0:Int), (some o0)))) else (bif (decide (a1.ID.Session < (9223372036854775808:Int))) then (inrO (some ((8:Int), (some o0)))) else (bif (decide (a1.Epoch ≤ z402)) then (inrO (some ((8:Int), (some o0)))) else (some (Sum.inl ())))))) else (bif (a1.Epoch != o0.epoch) then (inrO (some ((9:Int), (some o0)))) else (some (Sum.inl ())))) (lane_State_Hold_j1 o0 a1))
noncomputable def lane_State_Hold (a0 : (Option lane_State)) (a1 : api_Hold) : Option (Int × (Option lane_State)) :=
  (match a0 with | none => (some ((2:Int), none)) | some o0 => ((((locks_Table_Get o0.locks a1.ID).bind fun t342 => (some (t342.1.ID.Session, t342.1.ID.Seq, t342.1.Epoch, t342.1.Gets, t342.1.Scans, t342.1.Puts, t342.1.Data, t342.2)))).bind (lane_State_Hold_j0 a1 o0)))

noncomputable def mvcc_Store_find_l0 (o0 : mvcc_Store) (a1 : Int) (s : (Int × Int)) : Option ((Int × Int) ⊕ (Int)) :=
  match s with | (z348, z349) => (bif (decide (z348 < z349)) then (((geto o0.rows (IntKind.i64.wrap (iShr .u64 (IntKind.u64.wrap (IntKind.i64.wrap (z348 + z349))) (1:Int)))).bind fun x359 => (some (decide (x359.rank ≥ a1)))).bind fun z364 => (bif (!z364) then (some (Sum.inl ((IntKind.i64.wrap ((IntKind.i64.wrap (iShr .u64 (IntKind.u64.wrap (IntKind.i64.wrap (z348 + z349))) (1:Int))) + (1:Int))), z349))) else (some (Sum.inl (z348, (IntKind.i64.wrap (iShr .u64 (IntKind.u64.wrap (IntKind.i64.wrap (z348 + z349))) (1:Int)))))))) else (inrO (some z348)))
noncomputable def mvcc_Store_find (a0 : (Option mvcc_Store)) (a1 : Int) : Option (Int × Bool) :=
  (match a0 with | none => (some ((0:Int), false)) | some o0 => ((loopO (mvcc_Store_find_l0 o0 a1) ((0:Int), ((o0.rows).length : Int))).bind fun z370 => (bif (decide (z370 < ((o0.rows).length : Int))) then ((geto o0.rows z370).bind fun x376 => (some (z370, (x376.rank == a1)))) else (some (z370, false)))))

noncomputable def mvcc_read_l0 (a0 : (List mvcc_Version)) (a1 : Int) (s : (Int × Int)) : Option ((Int × Int) ⊕ (Int)) :=
  match s with | (z431, z432) => (bif (decide (z431 < z432)) then (((geto a0 (IntKind.i64.wrap (iShr .u64 (IntKind.u64.wrap (IntKind.i64.wrap (z431 + z432))) (1:Int)))).bind fun x442 => (some (decide (x442.Epoch > a1)))).bind fun z453 => (bif (!z453) then (some (Sum.inl ((IntKind.i64.wrap ((IntKind.i64.wrap (iShr .u64 (IntKind.u64.wrap (IntKind.i64.wrap (z431 + z432))) (1:Int))) + (1:Int))), z432))) else (some (Sum.inl (z431, (IntKind.i64.wrap (iShr .u64 (IntKind.u64.wrap (IntKind.i64.wrap (z431 + z432))) (1:Int)))))))) else (inrO (some z431)))
noncomputable def mvcc_read (a0 : (List mvcc_Version)) (a1 : Int) : Option (api_Got) :=
  ((loopO (mvcc_read_l0 a0 a1) ((0:Int), ((a0).length : Int))).bind fun z459 => (bif (z459 == (0:Int)) then (some ({ Has := false, Val := [] } : api_Got)) else ((geto a0 (IntKind.i64.wrap (z459 - (1:Int)))).bind fun x468 => (bif x468.Del then (some ({ Has := false, Val := [] } : api_Got)) else ((slices_Clone_byte_byte x468.Val).bind fun t483 => (some ({ Has := true, Val := t483 } : api_Got)))))))

noncomputable def mvcc_Store_Get (a0 : (Option mvcc_Store)) (a1 : Nat) (a2 : Int) : Option (api_Got) :=
  (match a0 with | none => ((number_Rank a1).bind fun t273 => ((mvcc_Store_find none t273).bind fun t279 => (bif (!t279.2) then (some ({ Has := false, Val := [] } : api_Got)) else none))) | some o0 => ((number_Rank a1).bind fun t294 => ((mvcc_Store_find (some o0) t294).bind fun t299 => (bif (!t299.2) then (some ({ Has := false, Val := [] } : api_Got)) else ((geto o0.rows t299.1).bind fun x311 => ((mvcc_read x311.l a2).bind fun t320 => (some t320)))))))

noncomputable def number_Back (a0 : Int) : Option (Nat) :=
  (bif ((iShr .u64 a0 (63:Int)) == (1:Int)) then (some (Int.toNat (bAndNot .u64 a0 (9223372036854775808:Int)))) else (some (Int.toNat (bXor .u64 ((18446744073709551615):Int) a0))))

noncomputable def mvcc_Store_Scan_l0 (o0 : mvcc_Store) (a2 : Nat) (a4 : Int) (a3 : Int) (s : ((List api_Pair) × Int)) : Option (((List api_Pair) × Int) ⊕ ((List api_Pair))) :=
  match s with | (z873, z876) => (bif (decide (z876 < ((o0.rows).length : Int))) then ((geto o0.rows z876).bind fun x891 => ((number_Rank a2).bind fun t896 => (bif (decide (x891.rank ≤ t896)) then (bif (decide (((z873).length : Int) < a4)) then ((mvcc_read x891.l a3).bind fun t907 => (bif t907.Has then ((number_Back x891.rank).bind fun t923 => (gd (room z873 ([({ At := t923, Val := t907.Val } : api_Pair)])) (some (Sum.inl ((z873 ++ ([({ At := t923, Val := t907.Val } : api_Pair)])), (IntKind.i64.wrap (z876 + (1:Int)))))))) else (some (Sum.inl (z873, (IntKind.i64.wrap (z876 + (1:Int)))))))) else (inrO (some z873))) else (inrO (some z873))))) else (inrO (some z873)))
noncomputable def mvcc_Store_Scan (a0 : (Option mvcc_Store)) (a1 : Nat) (a2 : Nat) (a3 : Int) (a4 : Int) : Option ((List api_Pair)) :=
  (match a0 with | none => (some ([])) | some o0 => ((number_Rank a1).bind fun t688 => ((mvcc_Store_find (some o0) t688).bind fun t693 => (loopO (mvcc_Store_Scan_l0 o0 a2 a4 a3) ([], t693.1)))))

noncomputable def lane_State_Told_l1 (a1 : api_Hold) (o0 : lane_State) (s : ((List api_Got) × Int)) : Option (((List api_Got) × Int) ⊕ ((List api_Got))) :=
  match s with | (z830, z833) => (bif (decide (z833 < ((a1.Gets).length : Int))) then ((geto a1.Gets z833).bind fun x844 => ((mvcc_Store_Get o0.store x844 (18446744073709551615:Int)).bind fun t865 => (gd (room z830 ([t865])) (some (Sum.inl ((z830 ++ ([t865])), (IntKind.i64.wrap (z833 + (1:Int))))))))) else (inrO (some z830)))
noncomputable def lane_State_Told_l2 (a1 : api_Hold) (o0 : lane_State) (z890 : (List api_Got)) (s : ((List (List api_Pair)) × Int)) : Option (((List (List api_Pair)) × Int) ⊕ (api_Reply)) :=
  match s with | (z1058, z1061) => (bif (decide (z1061 < ((a1.Scans).length : Int))) then ((geto a1.Scans z1061).bind fun x1072 => ((mvcc_Store_Scan o0.store x1072.1 x1072.2 (18446744073709551615:Int) (64:Int)).bind fun t1100 => (gd (room z1058 ([t1100])) (some (Sum.inl ((z1058 ++ ([t1100])), (IntKind.i64.wrap (z1061 + (1:Int))))))))) else (inrO (some ({ E := (0:Int), Epoch := (0:Int), Index := (0:Int), Gots := z890, Scans := z1058 } : api_Reply))))
noncomputable def lane_State_Told_j0 (a1 : api_Hold) (o0 : lane_State) (z890 : ((List api_Got))) : Option (api_Reply) :=
  (loopO (lane_State_Told_l2 a1 o0 z890) ([], (0:Int)))
noncomputable def lane_State_Told (a0 : (Option lane_State)) (a1 : api_Hold) : Option (api_Reply) :=
  (match a0 with | none => (some zero_api_Reply) | some o0 => (((loopO (lane_State_Told_l1 a1 o0) ([], (0:Int)))).bind (lane_State_Told_j0 a1 o0)))

noncomputable def lane_State_prepare (a0 : (Option lane_State)) (a1 : api_Command) : Option (api_Effect × (Option lane_State)) :=
  ((lane_State_Hold a0 a1.Hold).bind fun t184 => (bif (t184.1 == (0:Int)) then ((lane_State_Told t184.2 a1.Hold).bind fun t192 => (some (({ Kind := (2:Int), ID := a1.Hold.ID, R := t192 } : api_Effect), t184.2))) else (some (({ Kind := (2:Int), ID := a1.Hold.ID, R := ({ E := t184.1, Epoch := (0:Int), Index := (0:Int), Gots := [], Scans := [] } : api_Reply) } : api_Effect), t184.2))))

noncomputable def slices_Delete_api_Hold_api_Hold (a0 : (List api_Hold)) (a1 a2 : Int) : Option ((List api_Hold)) :=
  gd (fits a0 a1 a2) (some (del a0 a1 a2))

noncomputable def locks_Table_Drop (a0 : (Option locks_Table)) (a1 : api_ID) : Option (Bool × (Option locks_Table)) :=
  (match a0 with | none => ((locks_Table_find none a1).bind fun t175 => (bif t175.2 then none else (some (t175.2, none)))) | some o0 => ((locks_Table_find (some o0) a1).bind fun t186 => (bif t186.2 then ((slices_Delete_api_Hold_api_Hold o0.l t186.1 (IntKind.i64.wrap (t186.1 + (1:Int)))).bind fun t195 => (some (t186.2, (some ({ l := t195 } : locks_Table))))) else (some (t186.2, (some o0))))))

noncomputable def slices_Insert_mvcc_row_mvcc_row_raw (a0 : (List (List Value))) (a1 : Int) (a2 : (List (List Value))) : Option ((List (List Value))) :=
  gd (insOK a0 a1 a2) (some (ins a0 a1 a2))

noncomputable def slices_Insert_mvcc_row_mvcc_row (a0 : (List mvcc_row)) (a1 : Int) (a2 : (List mvcc_row)) : Option ((List mvcc_row)) :=
  gd (insOK a0 a1 a2) (some (ins a0 a1 a2))

noncomputable def mvcc_ahead (a0 : mvcc_Version) (a1 : Int) (a2 : Int) : Option (Bool) :=
  (bif (decide (a0.Epoch < a1)) then (some true) else (bif (a0.Epoch == a1) then (some (decide (a0.Index < a2))) else (some false)))

noncomputable def slices_Insert_mvcc_Version_mvcc_Version (a0 : (List mvcc_Version)) (a1 : Int) (a2 : (List mvcc_Version)) : Option ((List mvcc_Version)) :=
  gd (insOK a0 a1 a2) (some (ins a0 a1 a2))

noncomputable def mvcc_Store_Put_l2 (x512 : mvcc_row) (a2 : mvcc_Version) (s : (Int × Int)) : Option ((Int × Int) ⊕ (Int)) :=
  match s with | (z580, z581) => (bif (decide (z580 < z581)) then (((geto x512.l (IntKind.i64.wrap (iShr .u64 (IntKind.u64.wrap (IntKind.i64.wrap (z580 + z581))) (1:Int)))).bind fun x593 => ((mvcc_ahead x593 a2.Epoch a2.Index).bind fun t604 => (some (!t604)))).bind fun z609 => (bif (!z609) then (some (Sum.inl ((IntKind.i64.wrap ((IntKind.i64.wrap (iShr .u64 (IntKind.u64.wrap (IntKind.i64.wrap (z580 + z581))) (1:Int))) + (1:Int))), z581))) else (some (Sum.inl (z580, (IntKind.i64.wrap (iShr .u64 (IntKind.u64.wrap (IntKind.i64.wrap (z580 + z581))) (1:Int)))))))) else (inrO (some z580)))
noncomputable def mvcc_Store_Put_j3 (x512 : mvcc_row) (z615 : Int) (a2 : mvcc_Version) (z460 : (List Int)) (z502 : mvcc_Store) (t471 : (Int × Bool)) (_s : Unit) : Option ((Option mvcc_Store)) :=
  ((slices_Insert_mvcc_Version_mvcc_Version x512.l z615 ([({ Epoch := a2.Epoch, Index := a2.Index, Del := a2.Del, Val := z460 } : mvcc_Version)])).bind fun t665 => (some (some ({ rows := (z502.rows.set t471.1.toNat ({ rank := x512.rank, l := t665 } : mvcc_row)) } : mvcc_Store))))
noncomputable def mvcc_Store_Put_j1 (t471 : (Int × Bool)) (a2 : mvcc_Version) (z460 : (List Int)) (z502 : (mvcc_Store)) : Option ((Option mvcc_Store)) :=
  ((geto z502.rows t471.1).bind fun x512 => ((loopO (mvcc_Store_Put_l2 x512 a2) ((0:Int), ((x512.l).length : Int))).bind fun z615 => (joinO (bif (decide (z615 < ((x512.l).length : Int))) then ((geto x512.l z615).bind fun x623 => (bif (x623.Epoch == a2.Epoch) then (bif (x623.Index == a2.Index) then (inrO (some (some ({ rows := (z502.rows.set t471.1.toNat ({ rank := x512.rank, l := (x512.l.set z615.toNat ({ Epoch := a2.Epoch, Index := a2.Index, Del := a2.Del, Val := z460 } : mvcc_Version)) } : mvcc_row)) } : mvcc_Store)))) else (some (Sum.inl ()))) else (some (Sum.inl ())))) else (some (Sum.inl ()))) (mvcc_Store_Put_j3 x512 z615 a2 z460 z502 t471))))
noncomputable def mvcc_Store_Put_j0 (a1 : Nat) (o0 : mvcc_Store) (a2 : mvcc_Version) (z460 : ((List Int))) : Option ((Option mvcc_Store)) :=
  ((number_Rank a1).bind fun t466 => ((mvcc_Store_find (some o0) t466).bind fun t471 => (((bif (!t471.2) then ((number_Rank a1).bind fun t481 => ((slices_Insert_mvcc_row_mvcc_row o0.rows t471.1 ([({ rank := t481, l := [] } : mvcc_row)])).bind fun t493 => (some ({ rows := t493 } : mvcc_Store)))) else (some o0))).bind (mvcc_Store_Put_j1 t471 a2 z460))))
noncomputable def mvcc_Store_Put (a0 : (Option mvcc_Store)) (a1 : Nat) (a2 : mvcc_Version) : Option ((Option mvcc_Store)) :=
  (match a0 with | none => (some none) | some o0 => ((slices_Clone_byte_byte a2.Val).bind fun t445 => (((bif a2.Del then (some ([])) else (some t445))).bind (mvcc_Store_Put_j0 a1 o0 a2))))

noncomputable def lane_State_finish_l0 (a1 : api_Command) (s : (lane_State × Int)) : Option ((lane_State × Int) ⊕ (api_Effect × (Option lane_State))) :=
  match s with | (z458, z459) => (bif (decide (z459 < ((a1.Writes).length : Int))) then ((geto a1.Writes z459).bind fun x470 => ((mvcc_Store_Put z458.store x470.At ({ Epoch := a1.Epoch, Index := a1.Index, Del := x470.Del, Val := x470.Val } : mvcc_Version)).bind fun t506 => (some (Sum.inl (({ wide := z458.wide, epoch := z458.epoch, store := t506, locks := z458.locks, last := z458.last, book := z458.book, open_ := z458.open_, out := z458.out, used := z458.used } : lane_State), (IntKind.i64.wrap (z459 + (1:Int)))))))) else (inrO (some (({ Kind := (3:Int), ID := a1.ID, R := zero_api_Reply } : api_Effect), (some z458)))))
noncomputable def lane_State_finish (a0 : (Option lane_State)) (a1 : api_Command) : Option (api_Effect × (Option lane_State)) :=
  (match a0 with | none => none | some o0 => ((locks_Table_Drop o0.locks a1.ID).bind fun t365 => (bif t365.1 then (bif (a1.E == (0:Int)) then (loopO (lane_State_finish_l0 a1) (({ wide := o0.wide, epoch := o0.epoch, store := o0.store, locks := t365.2, last := o0.last, book := o0.book, open_ := o0.open_, out := o0.out, used := o0.used } : lane_State), (0:Int))) else (some (({ Kind := (3:Int), ID := a1.ID, R := zero_api_Reply } : api_Effect), (some ({ wide := o0.wide, epoch := o0.epoch, store := o0.store, locks := t365.2, last := o0.last, book := o0.book, open_ := o0.open_, out := o0.out, used := o0.used } : lane_State))))) else (some (({ Kind := (3:Int), ID := a1.ID, R := zero_api_Reply } : api_Effect), (some ({ wide := o0.wide, epoch := o0.epoch, store := o0.store, locks := t365.2, last := o0.last, book := o0.book, open_ := o0.open_, out := o0.out, used := o0.used } : lane_State)))))))

noncomputable def session_Table_find_1 (a0 : session_row) (a1 : Int) : Option (Int) :=
  ((cmp_Compare_uint64 a0.session a1).bind fun t226 => (some t226))

noncomputable def session_Table_find_l1 (o0 : session_Table) (a1 : Int) (s : (Int × Int)) : Option ((Int × Int) ⊕ (Int)) :=
  match s with | (z347, z348) => (bif (decide (z348 < z347)) then ((geto o0.l (IntKind.i64.wrap (iShr .u64 (IntKind.u64.wrap (IntKind.i64.wrap (z348 + z347))) (1:Int)))).bind fun x358 => ((session_Table_find_1 x358 a1).bind fun t372 => (bif (decide (t372 < (0:Int))) then (some (Sum.inl (z347, (IntKind.i64.wrap ((IntKind.i64.wrap (iShr .u64 (IntKind.u64.wrap (IntKind.i64.wrap (z348 + z347))) (1:Int))) + (1:Int)))))) else (some (Sum.inl ((IntKind.i64.wrap (iShr .u64 (IntKind.u64.wrap (IntKind.i64.wrap (z348 + z347))) (1:Int))), z348)))))) else (inrO (some z348)))
noncomputable def session_Table_find_j0 (o0 : session_Table) (a1 : Int) (z378 : (Int)) : Option (Int × Bool) :=
  (bif (decide (z378 < ((o0.l).length : Int))) then ((geto o0.l z378).bind fun x385 => ((session_Table_find_1 x385 a1).bind fun t399 => (some (z378, (t399 == (0:Int)))))) else (some (z378, false)))
noncomputable def session_Table_find (a0 : (Option session_Table)) (a1 : Int) : Option (Int × Bool) :=
  (match a0 with | none => (some ((0:Int), false)) | some o0 => ((((loopO (session_Table_find_l1 o0 a1) (((o0.l).length : Int), (0:Int)))).bind (session_Table_find_j0 o0 a1)).bind fun (z404, z405) => (some (z404, z405))))

noncomputable def slices_Insert_session_row_session_row (a0 : (List session_row)) (a1 : Int) (a2 : (List session_row)) : Option ((List session_row)) :=
  gd (insOK a0 a1 a2) (some (ins a0 a1 a2))

noncomputable def session_Table_Put_j1 (t313 : (Int × Bool)) (a2 : Int) (a3 : api_Reply) (z368 : (session_Table)) : Option (Int × (Option session_Table)) :=
  ((geto z368.l t313.1).bind fun x378 => (some ((0:Int), (some ({ l := ((z368.l.set t313.1.toNat ({ session := x378.session, seq := a2, r := x378.r } : session_row)).set t313.1.toNat ({ session := ({ session := x378.session, seq := a2, r := x378.r } : session_row).session, seq := ({ session := x378.session, seq := a2, r := x378.r } : session_row).seq, r := a3 } : session_row)) } : session_Table)))))
noncomputable def session_Table_Put_j0 (t313 : (Int × Bool)) (o0 : session_Table) (a1 : Int) (a2 : Int) (a3 : api_Reply) (_s : Unit) : Option (Int × (Option session_Table)) :=
  (((bif (!t313.2) then ((slices_Insert_session_row_session_row o0.l t313.1 ([({ session := a1, seq := (0:Int), r := zero_api_Reply } : session_row)])).bind fun t359 => (some ({ l := t359 } : session_Table))) else (some o0))).bind (session_Table_Put_j1 t313 a2 a3))
noncomputable def session_Table_Put (a0 : (Option session_Table)) (a1 : Int) (a2 : Int) (a3 : api_Reply) : Option (Int × (Option session_Table)) :=
  (match a0 with | none => (some ((2:Int), none)) | some o0 => (bif (a2 == (0:Int)) then (some ((1:Int), (some o0))) else ((session_Table_find (some o0) a1).bind fun t313 => (joinO (bif t313.2 then ((geto o0.l t313.1).bind fun x323 => (bif (decide (x323.seq ≥ a2)) then (inrO (some ((10:Int), (some o0)))) else (some (Sum.inl ())))) else (some (Sum.inl ()))) (session_Table_Put_j0 t313 o0 a1 a2 a3)))))

noncomputable def session_Table_Last (a0 : (Option session_Table)) (a1 : Int) : Option (Int) :=
  (match a0 with | none => ((session_Table_find none a1).bind fun t298 => (bif (!t298.2) then (some (0:Int)) else none)) | some o0 => ((session_Table_find (some o0) a1).bind fun t304 => (bif (!t304.2) then (some (0:Int)) else ((geto o0.l t304.1).bind fun x313 => (some x313.seq)))))

noncomputable def lane_State_late (a0 : (Option lane_State)) (a1 : api_ID) : Option (api_Effect) :=
  (match a0 with | none => none | some o0 => ((session_Table_Last o0.last a1.Session).bind fun t348 => (bif (decide (t348 ≤ a1.Seq)) then (some zero_api_Effect) else (some ({ Kind := (4:Int), ID := a1, R := ({ E := (10:Int), Epoch := (0:Int), Index := (0:Int), Gots := [], Scans := [] } : api_Reply) } : api_Effect)))))

noncomputable def slices_Clone_api_Part_api_Part (a0 : (List api_Part)) : Option ((List api_Part)) :=
  gd (room ([] : (List api_Part)) a0) (some a0)

noncomputable def lane_State_find_1 (a0 : api_Decision) (a1 : api_ID) : Option (Int) :=
  ((cmp_Compare_uint64 a0.ID.Session a1.Session).bind fun t380 => ((cmp_Compare_uint64 a0.ID.Seq a1.Seq).bind fun t385 => ((cmp_Or_int ([t380, t385])).bind fun t397 => (some t397))))

noncomputable def lane_State_find_l1 (o0 : lane_State) (a1 : api_ID) (s : (Int × Int)) : Option ((Int × Int) ⊕ (Int)) :=
  match s with | (z498, z499) => (bif (decide (z499 < z498)) then ((geto o0.open_ (IntKind.i64.wrap (iShr .u64 (IntKind.u64.wrap (IntKind.i64.wrap (z499 + z498))) (1:Int)))).bind fun x511 => ((lane_State_find_1 x511 a1).bind fun t522 => (bif (decide (t522 < (0:Int))) then (some (Sum.inl (z498, (IntKind.i64.wrap ((IntKind.i64.wrap (iShr .u64 (IntKind.u64.wrap (IntKind.i64.wrap (z499 + z498))) (1:Int))) + (1:Int)))))) else (some (Sum.inl ((IntKind.i64.wrap (iShr .u64 (IntKind.u64.wrap (IntKind.i64.wrap (z499 + z498))) (1:Int))), z499)))))) else (inrO (some z499)))
noncomputable def lane_State_find_j0 (o0 : lane_State) (a1 : api_ID) (z528 : (Int)) : Option (Int × Bool) :=
  (bif (decide (z528 < ((o0.open_).length : Int))) then ((geto o0.open_ z528).bind fun x537 => ((lane_State_find_1 x537 a1).bind fun t548 => (some (z528, (t548 == (0:Int)))))) else (some (z528, false)))
noncomputable def lane_State_find (a0 : (Option lane_State)) (a1 : api_ID) : Option (Int × Bool) :=
  (match a0 with | none => none | some o0 => ((((loopO (lane_State_find_l1 o0 a1) (((o0.open_).length : Int), (0:Int)))).bind (lane_State_find_j0 o0 a1)).bind fun (z553, z554) => (some (z553, z554))))

noncomputable def slices_Insert_api_Decision_api_Decision (a0 : (List api_Decision)) (a1 : Int) (a2 : (List api_Decision)) : Option ((List api_Decision)) :=
  gd (insOK a0 a1 a2) (some (ins a0 a1 a2))

noncomputable def lane_State_decide_j0 (_s : Unit) : Option (api_Effect × (Option lane_State)) :=
  none
noncomputable def lane_State_decide_j2 (a2 : api_Command) (a1 : Int) (z797 : (lane_State)) : Option (api_Effect × (Option lane_State)) :=
  (some (({ Kind := (4:Int), ID := a2.ID, R := ({ E := (9:Int), Epoch := a2.Epoch, Index := a1, Gots := [], Scans := [] } : api_Reply) } : api_Effect), (some z797)))
noncomputable def lane_State_decide_j1 (o0 : lane_State) (a2 : api_Command) (a1 : Int) (_s : Unit) : Option (api_Effect × (Option lane_State)) :=
  ((session_Table_Put o0.last a2.ID.Session a2.ID.Seq ({ E := (9:Int), Epoch := a2.Epoch, Index := a1, Gots := [], Scans := [] } : api_Reply)).bind fun t678 => (bif (t678.1 != (0:Int)) then ((lane_State_late (some ({ wide := o0.wide, epoch := o0.epoch, store := o0.store, locks := o0.locks, last := t678.2, book := o0.book, open_ := o0.open_, out := o0.out, used := o0.used } : lane_State)) a2.ID).bind fun t684 => (some (t684, (some ({ wide := o0.wide, epoch := o0.epoch, store := o0.store, locks := o0.locks, last := t678.2, book := o0.book, open_ := o0.open_, out := o0.out, used := o0.used } : lane_State))))) else (((bif (a2.Shards != (0:Int)) then (bif ((9:Int) == (0:Int)) then ((slices_Clone_api_Part_api_Part a2.Parts).bind fun t712 => ((lane_State_find (some ({ wide := o0.wide, epoch := o0.epoch, store := o0.store, locks := o0.locks, last := t678.2, book := o0.book, open_ := o0.open_, out := o0.out, used := o0.used } : lane_State)) a2.ID).bind fun t721 => ((slices_Insert_api_Decision_api_Decision (({ wide := o0.wide, epoch := o0.epoch, store := o0.store, locks := o0.locks, last := t678.2, book := o0.book, open_ := o0.open_, out := o0.out, used := o0.used } : lane_State).open_) t721.1 ([({ ID := a2.ID, E := (9:Int), Epoch := a2.Epoch, Index := a1, Shards := a2.Shards, Parts := t712 } : api_Decision)])).bind fun t751 => (some ({ wide := ({ wide := o0.wide, epoch := o0.epoch, store := o0.store, locks := o0.locks, last := t678.2, book := o0.book, open_ := o0.open_, out := o0.out, used := o0.used } : lane_State).wide, epoch := ({ wide := o0.wide, epoch := o0.epoch, store := o0.store, locks := o0.locks, last := t678.2, book := o0.book, open_ := o0.open_, out := o0.out, used := o0.used } : lane_State).epoch, store := ({ wide := o0.wide, epoch := o0.epoch, store := o0.store, locks := o0.locks, last := t678.2, book := o0.book, open_ := o0.open_, out := o0.out, used := o0.used } : lane_State).store, locks := ({ wide := o0.wide, epoch := o0.epoch, store := o0.store, locks := o0.locks, last := t678.2, book := o0.book, open_ := o0.open_, out := o0.out, used := o0.used } : lane_State).locks, last := ({ wide := o0.wide, epoch := o0.epoch, store := o0.store, locks := o0.locks, last := t678.2, book := o0.book, open_ := o0.open_, out := o0.out, used := o0.used } : lane_State).last, book := ({ wide := o0.wide, epoch := o0.epoch, store := o0.store, locks := o0.locks, last := t678.2, book := o0.book, open_ := o0.open_, out := o0.out, used := o0.used } : lane_State).book, open_ := t751, out := ({ wide := o0.wide, epoch := o0.epoch, store := o0.store, locks := o0.locks, last := t678.2, book := o0.book, open_ := o0.open_, out := o0.out, used := o0.used } : lane_State).out, used := ({ wide := o0.wide, epoch := o0.epoch, store := o0.store, locks := o0.locks, last := t678.2, book := o0.book, open_ := o0.open_, out := o0.out, used := o0.used } : lane_State).used } : lane_State))))) else ((lane_State_find (some ({ wide := o0.wide, epoch := o0.epoch, store := o0.store, locks := o0.locks, last := t678.2, book := o0.book, open_ := o0.open_, out := o0.out, used := o0.used } : lane_State)) a2.ID).bind fun t760 => ((slices_Insert_api_Decision_api_Decision (({ wide := o0.wide, epoch := o0.epoch, store := o0.store, locks := o0.locks, last := t678.2, book := o0.book, open_ := o0.open_, out := o0.out, used := o0.used } : lane_State).open_) t760.1 ([({ ID := a2.ID, E := (9:Int), Epoch := a2.Epoch, Index := a1, Shards := a2.Shards, Parts := [] } : api_Decision)])).bind fun t788 => (some ({ wide := ({ wide := o0.wide, epoch := o0.epoch, store := o0.store, locks := o0.locks, last := t678.2, book := o0.book, open_ := o0.open_, out := o0.out, used := o0.used } : lane_State).wide, epoch := ({ wide := o0.wide, epoch := o0.epoch, store := o0.store, locks := o0.locks, last := t678.2, book := o0.book, open_ := o0.open_, out := o0.out, used := o0.used } : lane_State).epoch, store := ({ wide := o0.wide, epoch := o0.epoch, store := o0.store, locks := o0.locks, last := t678.2, book := o0.book, open_ := o0.open_, out := o0.out, used := o0.used } : lane_State).store, locks := ({ wide := o0.wide, epoch := o0.epoch, store := o0.store, locks := o0.locks, last := t678.2, book := o0.book, open_ := o0.open_, out := o0.out, used := o0.used } : lane_State).locks, last := ({ wide := o0.wide, epoch := o0.epoch, store := o0.store, locks := o0.locks, last := t678.2, book := o0.book, open_ := o0.open_, out := o0.out, used := o0.used } : lane_State).last, book := ({ wide := o0.wide, epoch := o0.epoch, store := o0.store, locks := o0.locks, last := t678.2, book := o0.book, open_ := o0.open_, out := o0.out, used := o0.used } : lane_State).book, open_ := t788, out := ({ wide := o0.wide, epoch := o0.epoch, store := o0.store, locks := o0.locks, last := t678.2, book := o0.book, open_ := o0.open_, out := o0.out, used := o0.used } : lane_State).out, used := ({ wide := o0.wide, epoch := o0.epoch, store := o0.store, locks := o0.locks, last := t678.2, book := o0.book, open_ := o0.open_, out := o0.out, used := o0.used } : lane_State).used } : lane_State))))) else (some ({ wide := o0.wide, epoch := o0.epoch, store := o0.store, locks := o0.locks, last := t678.2, book := o0.book, open_ := o0.open_, out := o0.out, used := o0.used } : lane_State)))).bind (lane_State_decide_j2 a2 a1))))
noncomputable def lane_State_decide_j4 (a2 : api_Command) (a1 : Int) (z917 : (lane_State)) : Option (api_Effect × (Option lane_State)) :=
  (some (({ Kind := (4:Int), ID := a2.ID, R := ({ E := a2.R.E, Epoch := a2.Epoch, Index := a1, Gots := a2.R.Gots, Scans := a2.R.Scans } : api_Reply) } : api_Effect), (some z917)))
noncomputable def lane_State_decide_j3 (o0 : lane_State) (a2 : api_Command) (a1 : Int) (_s : Unit) : Option (api_Effect × (Option lane_State)) :=
  ((session_Table_Put o0.last a2.ID.Session a2.ID.Seq ({ E := a2.R.E, Epoch := a2.Epoch, Index := a1, Gots := a2.R.Gots, Scans := a2.R.Scans } : api_Reply)).bind fun t836 => (bif (t836.1 != (0:Int)) then ((lane_State_late (some ({ wide := o0.wide, epoch := o0.epoch, store := o0.store, locks := o0.locks, last := t836.2, book := o0.book, open_ := o0.open_, out := o0.out, used := o0.used } : lane_State)) a2.ID).bind fun t842 => (some (t842, (some ({ wide := o0.wide, epoch := o0.epoch, store := o0.store, locks := o0.locks, last := t836.2, book := o0.book, open_ := o0.open_, out := o0.out, used := o0.used } : lane_State))))) else (((bif (a2.Shards != (0:Int)) then ((slices_Clone_api_Part_api_Part a2.Parts).bind fun t869 => ((lane_State_find (some ({ wide := o0.wide, epoch := o0.epoch, store := o0.store, locks := o0.locks, last := t836.2, book := o0.book, open_ := o0.open_, out := o0.out, used := o0.used } : lane_State)) a2.ID).bind fun t878 => ((slices_Insert_api_Decision_api_Decision (({ wide := o0.wide, epoch := o0.epoch, store := o0.store, locks := o0.locks, last := t836.2, book := o0.book, open_ := o0.open_, out := o0.out, used := o0.used } : lane_State).open_) t878.1 ([({ ID := a2.ID, E := a2.R.E, Epoch := a2.Epoch, Index := a1, Shards := a2.Shards, Parts := t869 } : api_Decision)])).bind fun t908 => (some ({ wide := ({ wide := o0.wide, epoch := o0.epoch, store := o0.store, locks := o0.locks, last := t836.2, book := o0.book, open_ := o0.open_, out := o0.out, used := o0.used } : lane_State).wide, epoch := ({ wide := o0.wide, epoch := o0.epoch, store := o0.store, locks := o0.locks, last := t836.2, book := o0.book, open_ := o0.open_, out := o0.out, used := o0.used } : lane_State).epoch, store := ({ wide := o0.wide, epoch := o0.epoch, store := o0.store, locks := o0.locks, last := t836.2, book := o0.book, open_ := o0.open_, out := o0.out, used := o0.used } : lane_State).store, locks := ({ wide := o0.wide, epoch := o0.epoch, store := o0.store, locks := o0.locks, last := t836.2, book := o0.book, open_ := o0.open_, out := o0.out, used := o0.used } : lane_State).locks, last := ({ wide := o0.wide, epoch := o0.epoch, store := o0.store, locks := o0.locks, last := t836.2, book := o0.book, open_ := o0.open_, out := o0.out, used := o0.used } : lane_State).last, book := ({ wide := o0.wide, epoch := o0.epoch, store := o0.store, locks := o0.locks, last := t836.2, book := o0.book, open_ := o0.open_, out := o0.out, used := o0.used } : lane_State).book, open_ := t908, out := ({ wide := o0.wide, epoch := o0.epoch, store := o0.store, locks := o0.locks, last := t836.2, book := o0.book, open_ := o0.open_, out := o0.out, used := o0.used } : lane_State).out, used := ({ wide := o0.wide, epoch := o0.epoch, store := o0.store, locks := o0.locks, last := t836.2, book := o0.book, open_ := o0.open_, out := o0.out, used := o0.used } : lane_State).used } : lane_State))))) else (some ({ wide := o0.wide, epoch := o0.epoch, store := o0.store, locks := o0.locks, last := t836.2, book := o0.book, open_ := o0.open_, out := o0.out, used := o0.used } : lane_State)))).bind (lane_State_decide_j4 a2 a1))))
noncomputable def lane_State_decide_j6 (a2 : api_Command) (a1 : Int) (z1026 : (lane_State)) : Option (api_Effect × (Option lane_State)) :=
  (some (({ Kind := (4:Int), ID := a2.ID, R := ({ E := a2.R.E, Epoch := a2.Epoch, Index := a1, Gots := a2.R.Gots, Scans := a2.R.Scans } : api_Reply) } : api_Effect), (some z1026)))
noncomputable def lane_State_decide_j5 (o0 : lane_State) (a2 : api_Command) (a1 : Int) (_s : Unit) : Option (api_Effect × (Option lane_State)) :=
  ((session_Table_Put o0.last a2.ID.Session a2.ID.Seq ({ E := a2.R.E, Epoch := a2.Epoch, Index := a1, Gots := a2.R.Gots, Scans := a2.R.Scans } : api_Reply)).bind fun t956 => (bif (t956.1 != (0:Int)) then ((lane_State_late (some ({ wide := o0.wide, epoch := o0.epoch, store := o0.store, locks := o0.locks, last := t956.2, book := o0.book, open_ := o0.open_, out := o0.out, used := o0.used } : lane_State)) a2.ID).bind fun t962 => (some (t962, (some ({ wide := o0.wide, epoch := o0.epoch, store := o0.store, locks := o0.locks, last := t956.2, book := o0.book, open_ := o0.open_, out := o0.out, used := o0.used } : lane_State))))) else (((bif (a2.Shards != (0:Int)) then ((lane_State_find (some ({ wide := o0.wide, epoch := o0.epoch, store := o0.store, locks := o0.locks, last := t956.2, book := o0.book, open_ := o0.open_, out := o0.out, used := o0.used } : lane_State)) a2.ID).bind fun t989 => ((slices_Insert_api_Decision_api_Decision (({ wide := o0.wide, epoch := o0.epoch, store := o0.store, locks := o0.locks, last := t956.2, book := o0.book, open_ := o0.open_, out := o0.out, used := o0.used } : lane_State).open_) t989.1 ([({ ID := a2.ID, E := a2.R.E, Epoch := a2.Epoch, Index := a1, Shards := a2.Shards, Parts := [] } : api_Decision)])).bind fun t1017 => (some ({ wide := ({ wide := o0.wide, epoch := o0.epoch, store := o0.store, locks := o0.locks, last := t956.2, book := o0.book, open_ := o0.open_, out := o0.out, used := o0.used } : lane_State).wide, epoch := ({ wide := o0.wide, epoch := o0.epoch, store := o0.store, locks := o0.locks, last := t956.2, book := o0.book, open_ := o0.open_, out := o0.out, used := o0.used } : lane_State).epoch, store := ({ wide := o0.wide, epoch := o0.epoch, store := o0.store, locks := o0.locks, last := t956.2, book := o0.book, open_ := o0.open_, out := o0.out, used := o0.used } : lane_State).store, locks := ({ wide := o0.wide, epoch := o0.epoch, store := o0.store, locks := o0.locks, last := t956.2, book := o0.book, open_ := o0.open_, out := o0.out, used := o0.used } : lane_State).locks, last := ({ wide := o0.wide, epoch := o0.epoch, store := o0.store, locks := o0.locks, last := t956.2, book := o0.book, open_ := o0.open_, out := o0.out, used := o0.used } : lane_State).last, book := ({ wide := o0.wide, epoch := o0.epoch, store := o0.store, locks := o0.locks, last := t956.2, book := o0.book, open_ := o0.open_, out := o0.out, used := o0.used } : lane_State).book, open_ := t1017, out := ({ wide := o0.wide, epoch := o0.epoch, store := o0.store, locks := o0.locks, last := t956.2, book := o0.book, open_ := o0.open_, out := o0.out, used := o0.used } : lane_State).out, used := ({ wide := o0.wide, epoch := o0.epoch, store := o0.store, locks := o0.locks, last := t956.2, book := o0.book, open_ := o0.open_, out := o0.out, used := o0.used } : lane_State).used } : lane_State)))) else (some ({ wide := o0.wide, epoch := o0.epoch, store := o0.store, locks := o0.locks, last := t956.2, book := o0.book, open_ := o0.open_, out := o0.out, used := o0.used } : lane_State)))).bind (lane_State_decide_j6 a2 a1))))
noncomputable def lane_State_decide (a0 : (Option lane_State)) (a1 : Int) (a2 : api_Command) : Option (api_Effect × (Option lane_State)) :=
  (match a0 with | none => (bif (a2.R.E == (0:Int)) then none else (joinO (bif (a2.R.E != (0:Int)) then (bif (decide (a2.ID.Session ≥ (9223372036854775808:Int))) then (inrO (some (zero_api_Effect, none))) else (some (Sum.inl ()))) else (some (Sum.inl ()))) (lane_State_decide_j0))) | some o0 => (bif (a2.R.E == (0:Int)) then (bif (a2.Epoch != o0.epoch) then (joinO (bif ((9:Int) != (0:Int)) then (bif (decide (a2.ID.Session ≥ (9223372036854775808:Int))) then (inrO (some (zero_api_Effect, (some o0)))) else (some (Sum.inl ()))) else (some (Sum.inl ()))) (lane_State_decide_j1 o0 a2 a1)) else (joinO (bif (a2.R.E != (0:Int)) then (bif (decide (a2.ID.Session ≥ (9223372036854775808:Int))) then (inrO (some (zero_api_Effect, (some o0)))) else (some (Sum.inl ()))) else (some (Sum.inl ()))) (lane_State_decide_j3 o0 a2 a1))) else (joinO (bif (a2.R.E != (0:Int)) then (bif (decide (a2.ID.Session ≥ (9223372036854775808:Int))) then (inrO (some (zero_api_Effect, (some o0)))) else (some (Sum.inl ()))) else (some (Sum.inl ()))) (lane_State_decide_j5 o0 a2 a1))))

noncomputable def slices_Delete_api_Decision_api_Decision (a0 : (List api_Decision)) (a1 a2 : Int) : Option ((List api_Decision)) :=
  gd (fits a0 a1 a2) (some (del a0 a1 a2))

noncomputable def policy_Book_Revoke_l0 (o0 : policy_Book) (a1 : Int) (a2 : Int) (s : (policy_Book × Int × Bool)) : Option ((policy_Book × Int × Bool) ⊕ (Bool × (Option policy_Book))) :=
  match s with | (z301, z302, z303) => (bif (decide (z302 < ((o0.l).length : Int))) then ((geto z301.l z302).bind fun x317 => (bif (x317.r.ID == a1) then (bif (x317.to_ == (0:Int)) then (some (Sum.inl (({ l := (z301.l.set z302.toNat ({ r := x317.r, from_ := x317.from_, to_ := (if (1:Int) > a2 then (1:Int) else a2) } : policy_line)) } : policy_Book), (IntKind.i64.wrap (z302 + (1:Int))), true))) else (some (Sum.inl (z301, (IntKind.i64.wrap (z302 + (1:Int))), z303)))) else (some (Sum.inl (z301, (IntKind.i64.wrap (z302 + (1:Int))), z303))))) else (inrO (some (z303, (some z301)))))
noncomputable def policy_Book_Revoke (a0 : (Option policy_Book)) (a1 : Int) (a2 : Int) : Option (Bool × (Option policy_Book)) :=
  (match a0 with | none => (some (false, none)) | some o0 => (loopO (policy_Book_Revoke_l0 o0 a1 a2) (o0, (0:Int), false)))

noncomputable def policy_Book_Grant (a0 : (Option policy_Book)) (a1 : api_Rule) (a2 : Int) : Option ((Option policy_Book)) :=
  (match a0 with | none => (some none) | some o0 => ((policy_Book_Revoke (some o0) a1.ID a2).bind fun t233 => (match t233.2 with | none => none | some y238 => (gd (room y238.l ([({ r := a1, from_ := a2, to_ := (0:Int) } : policy_line)])) (some (some ({ l := (y238.l ++ ([({ r := a1, from_ := a2, to_ := (0:Int) } : policy_line)])) } : policy_Book)))))))

noncomputable def lane_State_give_1 (a0 : lane_used) (a1 : Int) : Option (Int) :=
  ((cmp_Compare_uint64 a0.rule a1).bind fun t292 => (some t292))

noncomputable def slices_Insert_lane_used_lane_used (a0 : (List lane_used)) (a1 : Int) (a2 : (List lane_used)) : Option ((List lane_used)) :=
  gd (insOK a0 a1 a2) (some (ins a0 a1 a2))

noncomputable def lane_Pad_j0 (a0 : api_Write) (z528 : ((List Int))) : Option (api_Write) :=
  (some ({ At := a0.At, Del := a0.Del, Val := z528 } : api_Write))
noncomputable def lane_Pad (a0 : api_Write) (a1 : Int) : Option (api_Write) :=
  (gd (mkOK (if (0:Int) > a1 then (0:Int) else a1) (if (0:Int) > a1 then (0:Int) else a1)) (((bif a0.Del then (some ([])) else (some (cpy (List.replicate (Int.toNat (if (0:Int) > a1 then (0:Int) else a1)) (0:Int)) a0.Val)))).bind (lane_Pad_j0 a0)))

noncomputable def lane_State_give_l1 (o0 : lane_State) (a2 : api_Command) (s : (Int × Int)) : Option ((Int × Int) ⊕ (Int)) :=
  match s with | (z769, z770) => (bif (decide (z770 < z769)) then ((geto o0.used (IntKind.i64.wrap (iShr .u64 (IntKind.u64.wrap (IntKind.i64.wrap (z770 + z769))) (1:Int)))).bind fun x780 => ((lane_State_give_1 x780 a2.Rule.ID).bind fun t785 => (bif (decide (t785 < (0:Int))) then (some (Sum.inl (z769, (IntKind.i64.wrap ((IntKind.i64.wrap (iShr .u64 (IntKind.u64.wrap (IntKind.i64.wrap (z770 + z769))) (1:Int))) + (1:Int)))))) else (some (Sum.inl ((IntKind.i64.wrap (iShr .u64 (IntKind.u64.wrap (IntKind.i64.wrap (z770 + z769))) (1:Int))), z770)))))) else (inrO (some z770)))
noncomputable def lane_State_give_j0 (o0 : lane_State) (a2 : api_Command) (z791 : (Int)) : Option (Int × Bool) :=
  (bif (decide (z791 < ((o0.used).length : Int))) then ((geto o0.used z791).bind fun x798 => ((lane_State_give_1 x798 a2.Rule.ID).bind fun t803 => (some (z791, (t803 == (0:Int)))))) else (some (z791, false)))
noncomputable def lane_State_give_l6 (z916 : lane_State) (a2 : api_Command) (s : (Int × (List api_Item))) : Option ((Int × (List api_Item)) ⊕ ((List api_Item))) :=
  match s with | (z1064, z1065) => (bif (decide (z1064 < ((z916.out).length : Int))) then ((geto z916.out z1064).bind fun x1077 => (bif (x1077.To == a2.Rule.To) then (gd (room z1065 ([x1077])) (some (Sum.inl ((IntKind.i64.wrap (z1064 + (1:Int))), (z1065 ++ ([x1077])))))) else (some (Sum.inl ((IntKind.i64.wrap (z1064 + (1:Int))), z1065))))) else (inrO (some z1065)))
noncomputable def lane_State_give_j5 (z808 : Int) (a2 : api_Command) (z821 : Int) (z916 : (lane_State)) : Option (lane_State) :=
  ((geto z916.used z808).bind fun x938 => ((geto a2.Writes (0:Int)).bind fun x951 => ((loopO (lane_State_give_l6 z916 a2) ((0:Int), [])).bind fun z1110 => ((lane_Pad x951 z916.wide).bind fun t1115 => (gd (room z916.out ([({ To := a2.Rule.To, N := (IntKind.u64.wrap (IntKind.i64.wrap (((z1110).length : Int) + (1:Int)))), Rule := a2.Rule.ID, Epoch := a2.Epoch, W := t1115 } : api_Item)])) (some ({ wide := z916.wide, epoch := z916.epoch, store := z916.store, locks := z916.locks, last := z916.last, book := z916.book, open_ := z916.open_, out := (z916.out ++ ([({ To := a2.Rule.To, N := (IntKind.u64.wrap (IntKind.i64.wrap (((z1110).length : Int) + (1:Int)))), Rule := a2.Rule.ID, Epoch := a2.Epoch, W := t1115 } : api_Item)])), used := ((z916.used.set z808.toNat ({ rule := x938.rule, epoch := a2.Epoch, n := x938.n } : lane_used)).set z808.toNat ({ rule := ({ rule := x938.rule, epoch := a2.Epoch, n := x938.n } : lane_used).rule, epoch := ({ rule := x938.rule, epoch := a2.Epoch, n := x938.n } : lane_used).epoch, n := (IntKind.i64.wrap (z821 + (1:Int))) } : lane_used)) } : lane_State)))))))
noncomputable def lane_State_give_j4 (a2 : api_Command) (z853 : Int) (a1 : Int) (z1139 : (lane_State)) : Option (api_Effect × (Option lane_State)) :=
  (some (({ Kind := (4:Int), ID := a2.ID, R := ({ E := z853, Epoch := a2.Epoch, Index := a1, Gots := [], Scans := [] } : api_Reply) } : api_Effect), (some z1139)))
noncomputable def lane_State_give_j3 (o0 : lane_State) (a2 : api_Command) (a1 : Int) (z809 : Bool) (z808 : Int) (z821 : Int) (z853 : (Int)) : Option (api_Effect × (Option lane_State)) :=
  ((session_Table_Put o0.last a2.ID.Session a2.ID.Seq ({ E := z853, Epoch := a2.Epoch, Index := a1, Gots := [], Scans := [] } : api_Reply)).bind fun t877 => (bif (t877.1 != (0:Int)) then ((lane_State_late (some ({ wide := o0.wide, epoch := o0.epoch, store := o0.store, locks := o0.locks, last := t877.2, book := o0.book, open_ := o0.open_, out := o0.out, used := o0.used } : lane_State)) a2.ID).bind fun t883 => (some (t883, (some ({ wide := o0.wide, epoch := o0.epoch, store := o0.store, locks := o0.locks, last := t877.2, book := o0.book, open_ := o0.open_, out := o0.out, used := o0.used } : lane_State))))) else (((bif (z853 == (0:Int)) then (((bif (!z809) then ((slices_Insert_lane_used_lane_used o0.used z808 ([({ rule := a2.Rule.ID, epoch := (0:Int), n := (0:Int) } : lane_used)])).bind fun t907 => (some ({ wide := o0.wide, epoch := o0.epoch, store := o0.store, locks := o0.locks, last := t877.2, book := o0.book, open_ := o0.open_, out := o0.out, used := t907 } : lane_State))) else (some ({ wide := o0.wide, epoch := o0.epoch, store := o0.store, locks := o0.locks, last := t877.2, book := o0.book, open_ := o0.open_, out := o0.out, used := o0.used } : lane_State)))).bind (lane_State_give_j5 z808 a2 z821)) else (some ({ wide := o0.wide, epoch := o0.epoch, store := o0.store, locks := o0.locks, last := t877.2, book := o0.book, open_ := o0.open_, out := o0.out, used := o0.used } : lane_State)))).bind (lane_State_give_j4 a2 z853 a1))))
noncomputable def lane_State_give_j2 (a2 : api_Command) (o0 : lane_State) (a1 : Int) (z809 : Bool) (z808 : Int) (z821 : (Int)) : Option (api_Effect × (Option lane_State)) :=
  (((bif (a2.R.E != (0:Int)) then (some a2.R.E) else (bif (a2.Epoch != o0.epoch) then (some (9:Int)) else (bif (((a2.Writes).length : Int) != (1:Int)) then (some (1:Int)) else (bif (decide (z821 ≥ a2.Rule.Quota)) then (some (13:Int)) else (some a2.R.E)))))).bind (lane_State_give_j3 o0 a2 a1 z809 z808 z821))
noncomputable def lane_State_give (a0 : (Option lane_State)) (a1 : Int) (a2 : api_Command) : Option (api_Effect × (Option lane_State)) :=
  (match a0 with | none => none | some o0 => ((((loopO (lane_State_give_l1 o0 a2) (((o0.used).length : Int), (0:Int)))).bind (lane_State_give_j0 o0 a2)).bind fun (z808, z809) => (((bif z809 then ((geto o0.used z808).bind fun x815 => (bif (x815.epoch == a2.Epoch) then (some x815.n) else (some (0:Int)))) else (some (0:Int)))).bind (lane_State_give_j2 a2 o0 a1 z809 z808))))

noncomputable def lane_State_Apply (a0 : (Option lane_State)) (a1 : Int) (a2 : api_Command) : Option (api_Effect × (Option lane_State)) :=
  (match a0 with | none => (some (zero_api_Effect, none)) | some o0 => (bif (a2.Kind == (1:Int)) then ((lane_State_shut (some o0) a2).bind fun t275 => (match t275.2 with | none => none | some y284 => (some (t275.1, (some y284))))) else (bif (a2.Kind == (2:Int)) then ((lane_State_prepare (some o0) a2).bind fun t295 => (match t295.2 with | none => none | some y304 => (some (t295.1, (some y304))))) else (bif (a2.Kind == (3:Int)) then ((lane_State_finish (some o0) a2).bind fun t315 => (match t315.2 with | none => none | some y324 => (some (t315.1, (some y324))))) else (bif (a2.Kind == (4:Int)) then ((lane_State_decide (some o0) a1 a2).bind fun t335 => (match t335.2 with | none => none | some y346 => (some (t335.1, (some y346))))) else (bif (a2.Kind == (5:Int)) then ((lane_State_find (some o0) a2.ID).bind fun t351 => (bif t351.2 then ((slices_Delete_api_Decision_api_Decision o0.open_ t351.1 (IntKind.i64.wrap (t351.1 + (1:Int)))).bind fun t373 => (some (zero_api_Effect, (some ({ wide := o0.wide, epoch := o0.epoch, store := o0.store, locks := o0.locks, last := o0.last, book := o0.book, open_ := t373, out := o0.out, used := o0.used } : lane_State))))) else (some (zero_api_Effect, (some o0))))) else (bif (a2.Kind == (6:Int)) then (bif a2.On then ((policy_Book_Grant o0.book a2.Rule o0.epoch).bind fun t396 => (some (zero_api_Effect, (some ({ wide := o0.wide, epoch := o0.epoch, store := o0.store, locks := o0.locks, last := o0.last, book := t396, open_ := o0.open_, out := o0.out, used := o0.used } : lane_State))))) else ((policy_Book_Revoke o0.book a2.Rule.ID o0.epoch).bind fun t407 => (some (zero_api_Effect, (some ({ wide := o0.wide, epoch := o0.epoch, store := o0.store, locks := o0.locks, last := o0.last, book := t407.2, open_ := o0.open_, out := o0.out, used := o0.used } : lane_State)))))) else (bif (a2.Kind == (7:Int)) then ((lane_State_give (some o0) a1 a2).bind fun t419 => (match t419.2 with | none => none | some y430 => (some (t419.1, (some y430))))) else (some (zero_api_Effect, (some o0)))))))))))

noncomputable def lane_State_Epoch (a0 : (Option lane_State)) : Option (Int) :=
  (match a0 with | none => (some (0:Int)) | some o0 => (some o0.epoch))

noncomputable def law16_awake : Option (Bool) :=
  ((lane_New (4:Int)).bind fun t190 => ((lane_State_Apply (some t190) (1:Int) ({ Kind := (1:Int), ID := ({ Session := (0:Int), Seq := (0:Int) } : api_ID), Epoch := (1:Int), Index := (0:Int), E := (0:Int), Hold := zero_api_Hold, Writes := [], R := zero_api_Reply, Shards := (0:Int), Parts := [], Rule := zero_api_Rule, On := false } : api_Command)).bind fun t213 => (match t213.2 with | none => none | some y224 => (bif (t213.1.Kind == (1:Int)) then ((lane_State_Epoch (some y224)).bind fun t236 => (bif (t236 == (2:Int)) then (some true) else (some false))) else (some false)))))

noncomputable def lane_State_Last (a0 : (Option lane_State)) (a1 : Int) : Option (Int) :=
  (match a0 with | none => (some (0:Int)) | some o0 => ((session_Table_Last o0.last a1).bind fun t185 => (some t185)))

noncomputable def slices_Clone_api_Decision_api_Decision (a0 : (List api_Decision)) : Option ((List api_Decision)) :=
  gd (room ([] : (List api_Decision)) a0) (some a0)

noncomputable def lane_State_Open (a0 : (Option lane_State)) : Option ((List api_Decision)) :=
  (match a0 with | none => (some ([])) | some o0 => ((slices_Clone_api_Decision_api_Decision o0.open_).bind fun t203 => (some t203)))

noncomputable def law16_LaneInner_j0 (a1 : Int) (z162 : (Int)) : Option (Bool) :=
  ((lane_New (0:Int)).bind fun t168 => ((lane_State_Apply (some t168) (1:Int) ({ Kind := (4:Int), ID := ({ Session := (IntKind.u64.wrap ((9223372036854775808:Int) + (IntKind.u64.wrap (Int.tmod a1 (16:Int))))), Seq := z162 } : api_ID), Epoch := (9:Int), Index := (0:Int), E := (0:Int), Hold := zero_api_Hold, Writes := [], R := zero_api_Reply, Shards := (0:Int), Parts := [], Rule := zero_api_Rule, On := false } : api_Command)).bind fun t198 => (match t198.2 with | none => none | some y209 => ((lane_State_Apply (some y209) (2:Int) ({ Kind := (4:Int), ID := ({ Session := (IntKind.u64.wrap ((9223372036854775808:Int) + (IntKind.u64.wrap (Int.tmod a1 (16:Int))))), Seq := z162 } : api_ID), Epoch := (1:Int), Index := (0:Int), E := (0:Int), Hold := zero_api_Hold, Writes := [], R := ({ E := (8:Int), Epoch := (0:Int), Index := (0:Int), Gots := [], Scans := [] } : api_Reply), Shards := (0:Int), Parts := [], Rule := zero_api_Rule, On := false } : api_Command)).bind fun t238 => (match t238.2 with | none => none | some y249 => ((lane_State_Apply (some y249) (3:Int) ({ Kind := (4:Int), ID := ({ Session := (IntKind.u64.wrap ((9223372036854775808:Int) + (IntKind.u64.wrap (Int.tmod a1 (16:Int))))), Seq := z162 } : api_ID), Epoch := (1:Int), Index := (0:Int), E := (0:Int), Hold := zero_api_Hold, Writes := [], R := zero_api_Reply, Shards := (1:Int), Parts := [], Rule := zero_api_Rule, On := false } : api_Command)).bind fun t276 => (match t276.2 with | none => none | some y287 => (law16_awake.bind fun t298 => (bif t298 then (bif (t198.1.Kind == (0:Int)) then (bif (t238.1.Kind == (0:Int)) then (bif (t276.1.Kind == (4:Int)) then (bif (t276.1.R.E == (0:Int)) then ((lane_State_Last (some y287) (IntKind.u64.wrap ((9223372036854775808:Int) + (IntKind.u64.wrap (Int.tmod a1 (16:Int)))))).bind fun t308 => (bif (t308 == z162) then ((lane_State_Open (some y287)).bind fun t314 => (some (((t314).length : Int) == (1:Int)))) else (some false))) else (some false)) else (some false)) else (some false)) else (some false)) else (some false))))))))))
noncomputable def law16_LaneInner (a0 : Int) (a1 : Int) : Option (Bool) :=
  (((bif (a0 == (0:Int)) then (some (1:Int)) else (some a0))).bind (law16_LaneInner_j0 a1))
end Go.Proofs.YtgnkkopjkgdieaaGreat
