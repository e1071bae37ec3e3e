/- The models of the Go functions: plain Lean, no memory. -/
import Derived.Test.YtgnkkopjkgdieaaGreatLaneEpochsGv
set_option linter.unusedVariables false
set_option linter.unusedSimpArgs false
set_option maxRecDepth 100000
set_option maxHeartbeats 4000000
namespace Go.Proofs.YtgnkkopjkgdieaaGreat
open Go Go.V
structure mvcc_Version where
  Epoch : Int
  Index : Int
  Del : Bool
  Val : (List Int)

structure mvcc_row where
  rank : Int
  l : (List mvcc_Version)

structure mvcc_Store where
  rows : (List mvcc_row)

structure api_ID where
  Session : Int
  Seq : Int

structure api_Hold where
  ID : api_ID
  Epoch : Int
  Gets : (List Nat)
  Scans : (List (Nat × Nat))
  Puts : (List Nat)
  Data : (List Int)

structure locks_Table where
  l : (List api_Hold)

structure api_Got where
  Has : Bool
  Val : (List Int)

structure api_Pair where
  At : Nat
  Val : (List Int)

structure api_Reply where
  E : Int
  Epoch : Int
  Index : Int
  Gots : (List api_Got)
  Scans : (List (List api_Pair))

structure session_row where
  session : Int
  seq : Int
  r : api_Reply

structure session_Table where
  l : (List session_row)

structure api_Rule where
  ID : Int
  From : Int
  To : Int
  Lo : Nat
  Hi : Nat
  Authority : Int
  Quota : Int

structure policy_line where
  r : api_Rule
  from_ : Int
  to_ : Int

structure policy_Book where
  l : (List policy_line)

structure api_Write where
  At : Nat
  Del : Bool
  Val : (List Int)

structure api_Part where
  Shard : Int
  Writes : (List api_Write)

structure api_Decision where
  ID : api_ID
  E : Int
  Epoch : Int
  Index : Int
  Shards : Int
  Parts : (List api_Part)

structure api_Item where
  To : Int
  N : Int
  Rule : Int
  Epoch : Int
  W : api_Write

structure lane_used where
  rule : Int
  epoch : Int
  n : Int

structure lane_State where
  wide : Int
  epoch : Int
  store : (Option mvcc_Store)
  locks : (Option locks_Table)
  last : (Option session_Table)
  book : (Option policy_Book)
  open_ : (List api_Decision)
  out : (List api_Item)
  used : (List lane_used)

structure api_Command where
  Kind : Int
  ID : api_ID
  Epoch : Int
  Index : Int
  E : Int
  Hold : api_Hold
  Writes : (List api_Write)
  R : api_Reply
  Shards : Int
  Parts : (List api_Part)
  Rule : api_Rule
  On : Bool

structure api_Effect where
  Kind : Int
  ID : api_ID
  R : api_Reply

structure ref11_Version where
  At : Nat
  Epoch : Int
  Index : Int
  Del : Bool
  Val : (List Int)

def zero_api_Reply : api_Reply := { E := (0:Int), Epoch := (0:Int), Index := (0:Int), Gots := [], Scans := [] }

def zero_api_Effect : api_Effect := { Kind := (0:Int), ID := ({ Session := (0:Int), Seq := (0:Int) } : api_ID), R := zero_api_Reply }

def zero_api_Hold : api_Hold := { ID := ({ Session := (0:Int), Seq := (0:Int) } : api_ID), Epoch := (0:Int), Gets := [], Scans := [], Puts := [], Data := [] }

def zero_api_Rule : api_Rule := { ID := (0:Int), From := (0:Int), To := (0:Int), Lo := (0:Nat), Hi := (0:Nat), Authority := (0:Int), Quota := (0:Int) }

noncomputable def mvcc_New : Option (mvcc_Store) :=
  (some ({ rows := [] } : mvcc_Store))

noncomputable def locks_New : Option (locks_Table) :=
  (some ({ l := [] } : locks_Table))

noncomputable def session_New : Option (session_Table) :=
  (some ({ l := [] } : session_Table))

noncomputable def policy_New : Option (policy_Book) :=
  (some ({ l := [] } : policy_Book))

noncomputable def lane_New (a0 : Int) : Option (lane_State) :=
  (mvcc_New.bind fun t50 => (locks_New.bind fun t57 => (session_New.bind fun t64 => (policy_New.bind fun t71 => (some ({ wide := a0, epoch := (1:Int), store := (some t50), locks := (some t57), last := (some t64), book := (some t71), open_ := [], out := [], used := [] } : lane_State))))))

noncomputable def locks_Table_Until_l0 (o0 : locks_Table) (a1 : Int) (z296 : (Int)) : Option ((Int) ⊕ (Int)) :=
  (bif (decide (z296 < ((o0.l).length : Int))) then ((geto o0.l z296).bind fun x306 => ((some ()).bind fun _ => (bif (decide (x306.Epoch ≤ a1)) then (inrO (some z296)) else (some (Sum.inl (IntKind.i64.wrap (z296 + (1:Int)))))))) else (inrO (some ((-1):Int))))
noncomputable def locks_Table_Until (a0 : (Option locks_Table)) (a1 : Int) : Option (Bool) :=
  (match a0 with | none => (some false) | some o0 => (((loopO (locks_Table_Until_l0 o0 a1) (0:Int)).bind fun z336 => (some (decide (z336 ≥ (0:Int))))).bind fun z341 => (some z341)))

noncomputable def lane_State_May (a0 : (Option lane_State)) : Option (Bool) :=
  (match a0 with | none => (some false) | some o0 => ((locks_Table_Until o0.locks o0.epoch).bind fun t128 => (some (!t128))))

noncomputable def slices_Clone_mvcc_Version_mvcc_Version (a0 : (List mvcc_Version)) : Option ((List mvcc_Version)) :=
  gd (room ([] : (List mvcc_Version)) a0) (some a0)

noncomputable def mvcc_Store_Trim_l2 (x1242 : mvcc_row) (a1 : Int) (s : (Int × Int)) : Option ((Int × Int) ⊕ (Int)) :=
  match s with | (z1299, z1300) => (bif (decide (z1299 < z1300)) then (((geto x1242.l (IntKind.i64.wrap (iShr .u64 (IntKind.u64.wrap (IntKind.i64.wrap (z1299 + z1300))) (1:Int)))).bind fun x1310 => (some (decide (x1310.Epoch > a1)))).bind fun z1321 => (bif (!z1321) then (some (Sum.inl ((IntKind.i64.wrap ((IntKind.i64.wrap (iShr .u64 (IntKind.u64.wrap (IntKind.i64.wrap (z1299 + z1300))) (1:Int))) + (1:Int))), z1300))) else (some (Sum.inl (z1299, (IntKind.i64.wrap (iShr .u64 (IntKind.u64.wrap (IntKind.i64.wrap (z1299 + z1300))) (1:Int)))))))) else (inrO (some z1299)))
noncomputable def mvcc_Store_Trim_j3 (z1230 : (List mvcc_row)) (x1242 : mvcc_row) (z1229 : Int) (z1365 : ((List mvcc_Version))) : Option ((Int × (List mvcc_row)) ⊕ ((List mvcc_row))) :=
  (bif (decide (((z1365).length : Int) > (0:Int))) then (gd (room z1230 ([({ rank := x1242.rank, l := z1365 } : mvcc_row)])) (some (Sum.inl ((IntKind.i64.wrap (z1229 + (1:Int))), (z1230 ++ ([({ rank := x1242.rank, l := z1365 } : mvcc_row)])))))) else (some (Sum.inl ((IntKind.i64.wrap (z1229 + (1:Int))), z1230))))
noncomputable def mvcc_Store_Trim_l1 (o0 : mvcc_Store) (a1 : Int) (s : (Int × (List mvcc_row))) : Option ((Int × (List mvcc_row)) ⊕ ((List mvcc_row))) :=
  match s with | (z1229, z1230) => (bif (decide (z1229 < ((o0.rows).length : Int))) then ((geto o0.rows z1229).bind fun x1242 => ((loopO (mvcc_Store_Trim_l2 x1242 a1) ((0:Int), ((x1242.l).length : Int))).bind fun z1327 => (gd (fits x1242.l (if (0:Int) > (IntKind.i64.wrap (z1327 - (1:Int))) then (0:Int) else (IntKind.i64.wrap (z1327 - (1:Int)))) (((x1242.l).length : Nat) : Int)) ((slices_Clone_mvcc_Version_mvcc_Version (subs x1242.l (if (0:Int) > (IntKind.i64.wrap (z1327 - (1:Int))) then (0:Int) else (IntKind.i64.wrap (z1327 - (1:Int)))) (((x1242.l).length : Nat) : Int))).bind fun t1338 => (((bif (decide (z1327 > (0:Int))) then ((geto t1338 (0:Int)).bind fun x1346 => (bif x1346.Del then (gd (fits t1338 (1:Int) (((t1338).length : Nat) : Int)) (some (subs t1338 (1:Int) (((t1338).length : Nat) : Int)))) else (some t1338))) else (some t1338))).bind (mvcc_Store_Trim_j3 z1230 x1242 z1229)))))) else (inrO (some z1230)))
noncomputable def mvcc_Store_Trim_j0 (z1388 : ((List mvcc_row))) : Option ((Option mvcc_Store)) :=
  (some (some ({ rows := z1388 } : mvcc_Store)))
noncomputable def mvcc_Store_Trim (a0 : (Option mvcc_Store)) (a1 : Int) : Option ((Option mvcc_Store)) :=
  (match a0 with | none => (some none) | some o0 => (((loopO (mvcc_Store_Trim_l1 o0 a1) ((0:Int), []))).bind (mvcc_Store_Trim_j0)))

noncomputable def lane_State_shut (a0 : (Option lane_State)) (a1 : api_Command) : Option (api_Effect × (Option lane_State)) :=
  (match a0 with | none => none | some o0 => (bif (a1.Epoch != o0.epoch) then (some (zero_api_Effect, (some o0))) else ((lane_State_May (some o0)).bind fun t218 => (bif (!t218) then (some (zero_api_Effect, (some o0))) else (bif (decide ((IntKind.u64.wrap (o0.epoch + (1:Int))) > (9:Int))) then ((mvcc_Store_Trim o0.store (IntKind.u64.wrap ((IntKind.u64.wrap ((IntKind.u64.wrap (o0.epoch + (1:Int))) - (1:Int))) - (8:Int)))).bind fun t247 => (some (({ Kind := (1:Int), ID := ({ Session := (0:Int), Seq := (0:Int) } : api_ID), R := zero_api_Reply } : api_Effect), (some ({ wide := o0.wide, epoch := (IntKind.u64.wrap (o0.epoch + (1:Int))), store := t247, locks := o0.locks, last := o0.last, book := o0.book, open_ := o0.open_, out := o0.out, used := o0.used } : lane_State))))) else (some (({ Kind := (1:Int), ID := ({ Session := (0:Int), Seq := (0:Int) } : api_ID), R := zero_api_Reply } : api_Effect), (some ({ wide := o0.wide, epoch := (IntKind.u64.wrap (o0.epoch + (1:Int))), store := o0.store, locks := o0.locks, last := o0.last, book := o0.book, open_ := o0.open_, out := o0.out, used := o0.used } : lane_State)))))))))

noncomputable def cmp_isNaN_uint64 (a0 : Int) : Option (Bool) :=
  (some (a0 != a0))

noncomputable def cmp_Compare_uint64 (a0 : Int) (a1 : Int) : Option (Int) :=
  ((cmp_isNaN_uint64 a0).bind fun t232 => ((cmp_isNaN_uint64 a1).bind fun t237 => (bif t232 then (bif t237 then (some (0:Int)) else (some ((-1):Int))) else (bif t237 then (some (1:Int)) else (bif (decide (a0 < a1)) then (some ((-1):Int)) else (bif (decide (a0 > a1)) then (some (1:Int)) else (some (0:Int))))))))

noncomputable def cmp_Or_int_l0 (a0 : (List Int)) (z265 : (Int)) : Option ((Int) ⊕ (Int)) :=
  (bif (decide (z265 < ((a0).length : Int))) then ((geto a0 z265).bind fun x275 => (bif (x275 != (0:Int)) then (inrO (some x275)) else (some (Sum.inl (IntKind.i64.wrap (z265 + (1:Int))))))) else (inrO (some (0:Int))))
noncomputable def cmp_Or_int (a0 : (List Int)) : Option (Int) :=
  (loopO (cmp_Or_int_l0 a0) (0:Int))

noncomputable def locks_compare (a0 : api_Hold) (a1 : api_ID) : Option (Int) :=
  ((cmp_Compare_uint64 a0.ID.Session a1.Session).bind fun t253 => ((cmp_Compare_uint64 a0.ID.Seq a1.Seq).bind fun t258 => ((cmp_Or_int ([t253, t258])).bind fun t270 => (some t270))))

noncomputable def locks_Table_find_l1 (o0 : locks_Table) (a1 : api_ID) (s : (Int × Int)) : Option ((Int × Int) ⊕ (Int)) :=
  match s with | (z398, z399) => (bif (decide (z399 < z398)) then ((geto o0.l (IntKind.i64.wrap (iShr .u64 (IntKind.u64.wrap (IntKind.i64.wrap (z399 + z398))) (1:Int)))).bind fun x411 => ((locks_compare x411 a1).bind fun t431 => (bif (decide (t431 < (0:Int))) then (some (Sum.inl (z398, (IntKind.i64.wrap ((IntKind.i64.wrap (iShr .u64 (IntKind.u64.wrap (IntKind.i64.wrap (z399 + z398))) (1:Int))) + (1:Int)))))) else (some (Sum.inl ((IntKind.i64.wrap (iShr .u64 (IntKind.u64.wrap (IntKind.i64.wrap (z399 + z398))) (1:Int))), z399)))))) else (inrO (some z399)))
noncomputable def locks_Table_find_j0 (o0 : locks_Table) (a1 : api_ID) (z437 : (Int)) : Option (Int × Bool) :=
  (bif (decide (z437 < ((o0.l).length : Int))) then ((geto o0.l z437).bind fun x446 => ((locks_compare x446 a1).bind fun t466 => (some (z437, (t466 == (0:Int)))))) else (some (z437, false)))
noncomputable def locks_Table_find (a0 : (Option locks_Table)) (a1 : api_ID) : Option (Int × Bool) :=
  (match a0 with | none => (some ((0:Int), false)) | some o0 => ((((loopO (locks_Table_find_l1 o0 a1) (((o0.l).length : Int), (0:Int)))).bind (locks_Table_find_j0 o0 a1)).bind fun (z471, z472) => (some (z471, z472))))

noncomputable def locks_Table_Get (a0 : (Option locks_Table)) (a1 : api_ID) : Option (api_Hold × Bool) :=
  (match a0 with | none => ((locks_Table_find none a1).bind fun t241 => (bif (!t241.2) then (some (zero_api_Hold, false)) else none)) | some o0 => ((locks_Table_find (some o0) a1).bind fun t271 => (bif (!t271.2) then (some (zero_api_Hold, false)) else ((geto o0.l t271.1).bind fun x290 => (some (x290, true))))))

noncomputable def math_IsNaN (a0 : Nat) : Option (Bool) :=
  (some (fNe a0 a0))

noncomputable def number_Rank (a0 : Nat) : Option (Int) :=
  ((math_IsNaN a0).bind fun t271 => (bif t271 then (some (18446744073709551615:Int)) else (bif ((iShr .u64 (Int.ofNat a0) (63:Int)) == (1:Int)) then (some (bXor .u64 ((18446744073709551615):Int) (Int.ofNat a0))) else (some (bOr .u64 (Int.ofNat a0) (9223372036854775808:Int))))))

noncomputable def number_Same (a0 : Nat) (a1 : Nat) : Option (Bool) :=
  ((number_Rank a0).bind fun t274 => ((number_Rank a1).bind fun t279 => (some (t274 == t279))))

noncomputable def locks_Same_1 (a0 : (Nat × Nat)) (a1 : (Nat × Nat)) : Option (Bool) :=
  ((number_Same a0.1 a1.1).bind fun t377 => (bif t377 then ((number_Same a0.2 a1.2).bind fun t383 => (some t383)) else (some false)))

noncomputable def slices_Equal_byte_byte_l0 (a0 : (List Int)) (a1 : (List Int)) (z575 : (Int)) : Option ((Int) ⊕ (Bool)) :=
  (bif (decide (z575 < ((a0).length : Int))) then ((geto a0 z575).bind fun x585 => ((geto a1 z575).bind fun x590 => (bif (x585 != x590) then (inrO (some false)) else (some (Sum.inl (IntKind.i64.wrap (z575 + (1:Int)))))))) else (inrO (some true)))
noncomputable def slices_Equal_byte_byte (a0 : (List Int)) (a1 : (List Int)) : Option (Bool) :=
  (bif (((a0).length : Int) != ((a1).length : Int)) then (some false) else (loopO (slices_Equal_byte_byte_l0 a0 a1) (0:Int)))

noncomputable def locks_Same_l0 (a0 : api_Hold) (a1 : api_Hold) (z559 : (Int)) : Option ((Int) ⊕ (Bool)) :=
  (bif (decide (z559 < ((a0.Gets).length : Int))) then ((geto a0.Gets z559).bind fun x569 => ((geto a1.Gets z559).bind fun x574 => ((number_Same x569 x574).bind fun t579 => (bif (!t579) then (inrO (some false)) else (some (Sum.inl (IntKind.i64.wrap (z559 + (1:Int))))))))) else (inrO (some true)))
noncomputable def locks_Same_l1 (a0 : api_Hold) (a1 : api_Hold) (z655 : (Int)) : Option ((Int) ⊕ (Bool)) :=
  (bif (decide (z655 < ((a0.Scans).length : Int))) then ((geto a0.Scans z655).bind fun x665 => ((geto a1.Scans z655).bind fun x677 => ((locks_Same_1 x665 x677).bind fun t689 => (bif (!t689) then (inrO (some false)) else (some (Sum.inl (IntKind.i64.wrap (z655 + (1:Int))))))))) else (inrO (some true)))
noncomputable def locks_Same_l2 (a0 : api_Hold) (a1 : api_Hold) (z737 : (Int)) : Option ((Int) ⊕ (Bool)) :=
  (bif (decide (z737 < ((a0.Puts).length : Int))) then ((geto a0.Puts z737).bind fun x747 => ((geto a1.Puts z737).bind fun x752 => ((number_Same x747 x752).bind fun t757 => (bif (!t757) then (inrO (some false)) else (some (Sum.inl (IntKind.i64.wrap (z737 + (1:Int))))))))) else (inrO (some true)))
noncomputable def locks_Same (a0 : api_Hold) (a1 : api_Hold) : Option (Bool) :=
  (bif ((a0.ID.Session == a1.ID.Session) && (a0.ID.Seq == a1.ID.Seq)) then (bif (a0.Epoch == a1.Epoch) then ((bif (((a0.Gets).length : Int) != ((a1.Gets).length : Int)) then (some false) else (loopO (locks_Same_l0 a0 a1) (0:Int))).bind fun z585 => (bif z585 then ((bif (((a0.Scans).length : Int) != ((a1.Scans).length : Int)) then (some false) else (loopO (locks_Same_l1 a0 a1) (0:Int))).bind fun z695 => (bif z695 then ((bif (((a0.Puts).length : Int) != ((a1.Puts).length : Int)) then (some false) else (loopO (locks_Same_l2 a0 a1) (0:Int))).bind fun z763 => (bif z763 then ((slices_Equal_byte_byte a0.Data a1.Data).bind fun t769 => (some t769)) else (some false))) else (some false))) else (some false))) else (some false)) else (some false))

noncomputable def number_Within (a0 : Nat) (a1 : Nat) (a2 : Nat) : Option (Bool) :=
  ((number_Rank a1).bind fun t399 => ((number_Rank a0).bind fun t404 => (bif (decide (t399 ≤ t404)) then ((number_Rank a0).bind fun t410 => ((number_Rank a2).bind fun t415 => (some (decide (t410 ≤ t415))))) else (some false))))

noncomputable def locks_writes_l0 (a0 : api_Hold) (a1 : Nat) (a2 : Nat) (z497 : (Int)) : Option ((Int) ⊕ (Int)) :=
  (bif (decide (z497 < ((a0.Puts).length : Int))) then ((geto a0.Puts z497).bind fun x507 => (((number_Within x507 a1 a2).bind fun t512 => (some t512)).bind fun z517 => (bif z517 then (inrO (some z497)) else (some (Sum.inl (IntKind.i64.wrap (z497 + (1:Int)))))))) else (inrO (some ((-1):Int))))
noncomputable def locks_writes (a0 : api_Hold) (a1 : Nat) (a2 : Nat) : Option (Bool) :=
  (((loopO (locks_writes_l0 a0 a1 a2) (0:Int)).bind fun z523 => (some (decide (z523 ≥ (0:Int))))).bind fun z528 => (some z528))

noncomputable def locks_reads_l0 (a0 : api_Hold) (a1 : Nat) (z580 : (Int)) : Option ((Int) ⊕ (Int)) :=
  (bif (decide (z580 < ((a0.Gets).length : Int))) then ((geto a0.Gets z580).bind fun x590 => (((number_Same a1 x590).bind fun t595 => (some t595)).bind fun z600 => (bif z600 then (inrO (some z580)) else (some (Sum.inl (IntKind.i64.wrap (z580 + (1:Int)))))))) else (inrO (some ((-1):Int))))
noncomputable def locks_reads_l1 (a0 : api_Hold) (a1 : Nat) (z662 : (Int)) : Option ((Int) ⊕ (Int)) :=
  (bif (decide (z662 < ((a0.Scans).length : Int))) then ((geto a0.Scans z662).bind fun x672 => (((number_Within a1 x672.1 x672.2).bind fun t682 => (some t682)).bind fun z687 => (bif z687 then (inrO (some z662)) else (some (Sum.inl (IntKind.i64.wrap (z662 + (1:Int)))))))) else (inrO (some ((-1):Int))))
noncomputable def locks_reads (a0 : api_Hold) (a1 : Nat) : Option (Bool) :=
  (((loopO (locks_reads_l0 a0 a1) (0:Int)).bind fun z606 => (some (decide (z606 ≥ (0:Int))))).bind fun z611 => (bif z611 then (some true) else (((loopO (locks_reads_l1 a0 a1) (0:Int)).bind fun z693 => (some (decide (z693 ≥ (0:Int))))).bind fun z698 => (some z698))))

noncomputable def locks_Meet_l1 (a0 : api_Hold) (a1 : api_Hold) (z517 : (Int)) : Option ((Int) ⊕ (Unit ⊕ (Bool))) :=
  (bif (decide (z517 < ((a0.Puts).length : Int))) then ((geto a0.Puts z517).bind fun x527 => ((locks_writes a1 x527 x527).bind fun t532 => (bif t532 then (inrO (inrO (some true))) else ((locks_reads a1 x527).bind fun t538 => (bif t538 then (inrO (inrO (some true))) else (some (Sum.inl (IntKind.i64.wrap (z517 + (1:Int)))))))))) else (inrO (some (Sum.inl ()))))
noncomputable def locks_Meet_l2 (a1 : api_Hold) (a0 : api_Hold) (z574 : (Int)) : Option ((Int) ⊕ (Bool)) :=
  (bif (decide (z574 < ((a1.Puts).length : Int))) then ((geto a1.Puts z574).bind fun x584 => ((locks_reads a0 x584).bind fun t589 => (bif t589 then (inrO (some true)) else (some (Sum.inl (IntKind.i64.wrap (z574 + (1:Int)))))))) else (inrO (some false)))
noncomputable def locks_Meet_j0 (a1 : api_Hold) (a0 : api_Hold) (_s : Unit) : Option (Bool) :=
  (loopO (locks_Meet_l2 a1 a0) (0:Int))
noncomputable def locks_Meet (a0 : api_Hold) (a1 : api_Hold) : Option (Bool) :=
  (joinO (loopO (locks_Meet_l1 a0 a1) (0:Int)) (locks_Meet_j0 a1 a0))

noncomputable def slices_Clone_float64_float64 (a0 : (List Nat)) : Option ((List Nat)) :=
  gd (room ([] : (List Nat)) a0) (some a0)

noncomputable def slices_Clone_2_float64_2_float64 (a0 : (List (Nat × Nat))) : Option ((List (Nat × Nat))) :=
  gd (room ([] : (List (Nat × Nat))) a0) (some a0)

noncomputable def slices_Clone_byte_byte (a0 : (List Int)) : Option ((List Int)) :=
  gd (room ([] : (List Int)) a0) (some a0)

noncomputable def slices_Insert_api_Hold_api_Hold (a0 : (List api_Hold)) (a1 : Int) (a2 : (List api_Hold)) : Option ((List api_Hold)) :=
  gd (insOK a0 a1 a2) (some (ins a0 a1 a2))

noncomputable def locks_Table_Take_l1 (o0 : locks_Table) (a1 : api_Hold) (z639 : (Int)) : Option ((Int) ⊕ (Unit ⊕ (Int × (Option locks_Table)))) :=
  (bif (decide (z639 < ((o0.l).length : Int))) then ((geto o0.l z639).bind fun x649 => (bif (!((x649.ID.Session == a1.ID.Session) && (x649.ID.Seq == a1.ID.Seq))) then ((locks_Meet x649 a1).bind fun t681 => (bif t681 then (inrO (inrO (some ((8:Int), (some o0))))) else (some (Sum.inl (IntKind.i64.wrap (z639 + (1:Int))))))) else (some (Sum.inl (IntKind.i64.wrap (z639 + (1:Int))))))) else (inrO (some (Sum.inl ()))))
noncomputable def locks_Table_Take_j0 (a1 : api_Hold) (o0 : locks_Table) (_s : Unit) : Option (Int × (Option locks_Table)) :=
  ((slices_Clone_float64_float64 a1.Gets).bind fun t692 => ((slices_Clone_2_float64_2_float64 a1.Scans).bind fun t699 => ((slices_Clone_float64_float64 a1.Puts).bind fun t706 => ((slices_Clone_byte_byte a1.Data).bind fun t713 => ((locks_Table_find (some o0) a1.ID).bind fun t726 => (bif t726.2 then ((geto o0.l t726.1).bind fun x736 => (some ((0:Int), (some ({ l := (o0.l.set t726.1.toNat ({ ID := a1.ID, Epoch := a1.Epoch, Gets := t692, Scans := t699, Puts := t706, Data := t713 } : api_Hold)) } : locks_Table))))) else ((slices_Insert_api_Hold_api_Hold o0.l t726.1 ([({ ID := a1.ID, Epoch := a1.Epoch, Gets := t692, Scans := t699, Puts := t706, Data := t713 } : api_Hold)])).bind fun t797 => (some ((0:Int), (some ({ l := t797 } : locks_Table)))))))))))
noncomputable def locks_Table_Take (a0 : (Option locks_Table)) (a1 : api_Hold) : Option (Int × (Option locks_Table)) :=
  (match a0 with | none => (some ((2:Int), none)) | some o0 => (joinO (loopO (locks_Table_Take_l1 o0 a1) (0:Int)) (locks_Table_Take_j0 a1 o0)))

noncomputable def lane_State_Hold_j1 (o0 : lane_State) (a1 : api_Hold) (_s : Unit) : Option (Int × (Option lane_State)) :=
  ((locks_Table_Take o0.locks a1).bind fun t477 => (some (t477.1, (some ({ wide := o0.wide, epoch := o0.epoch, store := o0.store, locks := t477.2, last := o0.last, book := o0.book, open_ := o0.open_, out := o0.out, used := o0.used } : lane_State)))))
noncomputable def lane_State_Hold_j0 (a1 : api_Hold) (o0 : lane_State) (s : (Int × Int × Int × (List Nat) × (List (Nat × Nat)) × (List Nat) × (List Int) × Bool)) : Option (Int × (Option lane_State)) :=
  match s with | (z387, z388, z389, z392, z396, z400, z404, z406) => (joinO (bif z406 then ((locks_Same ({ ID := ({ Session := z387, Seq := z388 } : api_ID), Epoch := z389, Gets := z392, Scans := z396, Puts := z400, Data := z404 } : api_Hold) a1).bind fun t415 => (bif t415 then (inrO (some ((0:Int), (some o0)))) else (bif (decide (a1.ID.Session < (9223372036854775808:Int))) then (inrO (some ((8:Int), (some o0)))) else (bif (decide (a1.Epoch ≤ z389)) then (inrO (some ((8:Int), (some o0)))) else (some (Sum.inl ())))))) else (bif (a1.Epoch != o0.epoch) then (inrO (some ((9:Int), (some o0)))) else (some (Sum.inl ())))) (lane_State_Hold_j1 o0 a1))
noncomputable def lane_State_Hold (a0 : (Option lane_State)) (a1 : api_Hold) : Option (Int × (Option lane_State)) :=
  (match a0 with | none => (some ((2:Int), none)) | some o0 => ((((locks_Table_Get o0.locks a1.ID).bind fun t329 => (some (t329.1.ID.Session, t329.1.ID.Seq, t329.1.Epoch, t329.1.Gets, t329.1.Scans, t329.1.Puts, t329.1.Data, t329.2)))).bind (lane_State_Hold_j0 a1 o0)))

noncomputable def mvcc_Store_find_l0 (o0 : mvcc_Store) (a1 : Int) (s : (Int × Int)) : Option ((Int × Int) ⊕ (Int)) :=
  match s with | (z335, z336) => (bif (decide (z335 < z336)) then (((geto o0.rows (IntKind.i64.wrap (iShr .u64 (IntKind.u64.wrap (IntKind.i64.wrap (z335 + z336))) (1:Int)))).bind fun x346 => (some (decide (x346.rank ≥ a1)))).bind fun z351 => (bif (!z351) then (some (Sum.inl ((IntKind.i64.wrap ((IntKind.i64.wrap (iShr .u64 (IntKind.u64.wrap (IntKind.i64.wrap (z335 + z336))) (1:Int))) + (1:Int))), z336))) else (some (Sum.inl (z335, (IntKind.i64.wrap (iShr .u64 (IntKind.u64.wrap (IntKind.i64.wrap (z335 + z336))) (1:Int)))))))) else (inrO (some z335)))
noncomputable def mvcc_Store_find (a0 : (Option mvcc_Store)) (a1 : Int) : Option (Int × Bool) :=
  (match a0 with | none => (some ((0:Int), false)) | some o0 => ((loopO (mvcc_Store_find_l0 o0 a1) ((0:Int), ((o0.rows).length : Int))).bind fun z357 => (bif (decide (z357 < ((o0.rows).length : Int))) then ((geto o0.rows z357).bind fun x363 => (some (z357, (x363.rank == a1)))) else (some (z357, false)))))

noncomputable def mvcc_read_l0 (a0 : (List mvcc_Version)) (a1 : Int) (s : (Int × Int)) : Option ((Int × Int) ⊕ (Int)) :=
  match s with | (z418, z419) => (bif (decide (z418 < z419)) then (((geto a0 (IntKind.i64.wrap (iShr .u64 (IntKind.u64.wrap (IntKind.i64.wrap (z418 + z419))) (1:Int)))).bind fun x429 => (some (decide (x429.Epoch > a1)))).bind fun z440 => (bif (!z440) then (some (Sum.inl ((IntKind.i64.wrap ((IntKind.i64.wrap (iShr .u64 (IntKind.u64.wrap (IntKind.i64.wrap (z418 + z419))) (1:Int))) + (1:Int))), z419))) else (some (Sum.inl (z418, (IntKind.i64.wrap (iShr .u64 (IntKind.u64.wrap (IntKind.i64.wrap (z418 + z419))) (1:Int)))))))) else (inrO (some z418)))
noncomputable def mvcc_read (a0 : (List mvcc_Version)) (a1 : Int) : Option (api_Got) :=
  ((loopO (mvcc_read_l0 a0 a1) ((0:Int), ((a0).length : Int))).bind fun z446 => (bif (z446 == (0:Int)) then (some ({ Has := false, Val := [] } : api_Got)) else ((geto a0 (IntKind.i64.wrap (z446 - (1:Int)))).bind fun x455 => (bif x455.Del then (some ({ Has := false, Val := [] } : api_Got)) else ((slices_Clone_byte_byte x455.Val).bind fun t470 => (some ({ Has := true, Val := t470 } : api_Got)))))))

noncomputable def mvcc_Store_Get (a0 : (Option mvcc_Store)) (a1 : Nat) (a2 : Int) : Option (api_Got) :=
  (match a0 with | none => ((number_Rank a1).bind fun t260 => ((mvcc_Store_find none t260).bind fun t266 => (bif (!t266.2) then (some ({ Has := false, Val := [] } : api_Got)) else none))) | some o0 => ((number_Rank a1).bind fun t281 => ((mvcc_Store_find (some o0) t281).bind fun t286 => (bif (!t286.2) then (some ({ Has := false, Val := [] } : api_Got)) else ((geto o0.rows t286.1).bind fun x298 => ((mvcc_read x298.l a2).bind fun t307 => (some t307)))))))

noncomputable def number_Back (a0 : Int) : Option (Nat) :=
  (bif ((iShr .u64 a0 (63:Int)) == (1:Int)) then (some (Int.toNat (bAndNot .u64 a0 (9223372036854775808:Int)))) else (some (Int.toNat (bXor .u64 ((18446744073709551615):Int) a0))))

noncomputable def mvcc_Store_Scan_l0 (o0 : mvcc_Store) (a2 : Nat) (a4 : Int) (a3 : Int) (s : ((List api_Pair) × Int)) : Option (((List api_Pair) × Int) ⊕ ((List api_Pair))) :=
  match s with | (z860, z863) => (bif (decide (z863 < ((o0.rows).length : Int))) then ((geto o0.rows z863).bind fun x878 => ((number_Rank a2).bind fun t883 => (bif (decide (x878.rank ≤ t883)) then (bif (decide (((z860).length : Int) < a4)) then ((mvcc_read x878.l a3).bind fun t894 => (bif t894.Has then ((number_Back x878.rank).bind fun t910 => (gd (room z860 ([({ At := t910, Val := t894.Val } : api_Pair)])) (some (Sum.inl ((z860 ++ ([({ At := t910, Val := t894.Val } : api_Pair)])), (IntKind.i64.wrap (z863 + (1:Int)))))))) else (some (Sum.inl (z860, (IntKind.i64.wrap (z863 + (1:Int)))))))) else (inrO (some z860))) else (inrO (some z860))))) else (inrO (some z860)))
noncomputable def mvcc_Store_Scan (a0 : (Option mvcc_Store)) (a1 : Nat) (a2 : Nat) (a3 : Int) (a4 : Int) : Option ((List api_Pair)) :=
  (match a0 with | none => (some ([])) | some o0 => ((number_Rank a1).bind fun t675 => ((mvcc_Store_find (some o0) t675).bind fun t680 => (loopO (mvcc_Store_Scan_l0 o0 a2 a4 a3) ([], t680.1)))))

noncomputable def lane_State_Told_l1 (a1 : api_Hold) (o0 : lane_State) (s : ((List api_Got) × Int)) : Option (((List api_Got) × Int) ⊕ ((List api_Got))) :=
  match s with | (z817, z820) => (bif (decide (z820 < ((a1.Gets).length : Int))) then ((geto a1.Gets z820).bind fun x831 => ((mvcc_Store_Get o0.store x831 (18446744073709551615:Int)).bind fun t852 => (gd (room z817 ([t852])) (some (Sum.inl ((z817 ++ ([t852])), (IntKind.i64.wrap (z820 + (1:Int))))))))) else (inrO (some z817)))
noncomputable def lane_State_Told_l2 (a1 : api_Hold) (o0 : lane_State) (z877 : (List api_Got)) (s : ((List (List api_Pair)) × Int)) : Option (((List (List api_Pair)) × Int) ⊕ (api_Reply)) :=
  match s with | (z1045, z1048) => (bif (decide (z1048 < ((a1.Scans).length : Int))) then ((geto a1.Scans z1048).bind fun x1059 => ((mvcc_Store_Scan o0.store x1059.1 x1059.2 (18446744073709551615:Int) (64:Int)).bind fun t1087 => (gd (room z1045 ([t1087])) (some (Sum.inl ((z1045 ++ ([t1087])), (IntKind.i64.wrap (z1048 + (1:Int))))))))) else (inrO (some ({ E := (0:Int), Epoch := (0:Int), Index := (0:Int), Gots := z877, Scans := z1045 } : api_Reply))))
noncomputable def lane_State_Told_j0 (a1 : api_Hold) (o0 : lane_State) (z877 : ((List api_Got))) : Option (api_Reply) :=
  (loopO (lane_State_Told_l2 a1 o0 z877) ([], (0:Int)))
noncomputable def lane_State_Told (a0 : (Option lane_State)) (a1 : api_Hold) : Option (api_Reply) :=
  (match a0 with | none => (some zero_api_Reply) | some o0 => (((loopO (lane_State_Told_l1 a1 o0) ([], (0:Int)))).bind (lane_State_Told_j0 a1 o0)))

noncomputable def lane_State_prepare (a0 : (Option lane_State)) (a1 : api_Command) : Option (api_Effect × (Option lane_State)) :=
  ((lane_State_Hold a0 a1.Hold).bind fun t171 => (bif (t171.1 == (0:Int)) then ((lane_State_Told t171.2 a1.Hold).bind fun t179 => (some (({ Kind := (2:Int), ID := a1.Hold.ID, R := t179 } : api_Effect), t171.2))) else (some (({ Kind := (2:Int), ID := a1.Hold.ID, R := ({ E := t171.1, Epoch := (0:Int), Index := (0:Int), Gots := [], Scans := [] } : api_Reply) } : api_Effect), t171.2))))

noncomputable def slices_Delete_api_Hold_api_Hold (a0 : (List api_Hold)) (a1 a2 : Int) : Option ((List api_Hold)) :=
  gd (fits a0 a1 a2) (some (del a0 a1 a2))

noncomputable def locks_Table_Drop (a0 : (Option locks_Table)) (a1 : api_ID) : Option (Bool × (Option locks_Table)) :=
  (match a0 with | none => ((locks_Table_find none a1).bind fun t162 => (bif t162.2 then none else (some (t162.2, none)))) | some o0 => ((locks_Table_find (some o0) a1).bind fun t173 => (bif t173.2 then ((slices_Delete_api_Hold_api_Hold o0.l t173.1 (IntKind.i64.wrap (t173.1 + (1:Int)))).bind fun t182 => (some (t173.2, (some ({ l := t182 } : locks_Table))))) else (some (t173.2, (some o0))))))

noncomputable def slices_Insert_mvcc_row_mvcc_row_raw (a0 : (List (List Value))) (a1 : Int) (a2 : (List (List Value))) : Option ((List (List Value))) :=
  gd (insOK a0 a1 a2) (some (ins a0 a1 a2))

noncomputable def slices_Insert_mvcc_row_mvcc_row (a0 : (List mvcc_row)) (a1 : Int) (a2 : (List mvcc_row)) : Option ((List mvcc_row)) :=
  gd (insOK a0 a1 a2) (some (ins a0 a1 a2))

noncomputable def mvcc_ahead (a0 : mvcc_Version) (a1 : Int) (a2 : Int) : Option (Bool) :=
  (bif (decide (a0.Epoch < a1)) then (some true) else (bif (a0.Epoch == a1) then (some (decide (a0.Index < a2))) else (some false)))

noncomputable def slices_Insert_mvcc_Version_mvcc_Version (a0 : (List mvcc_Version)) (a1 : Int) (a2 : (List mvcc_Version)) : Option ((List mvcc_Version)) :=
  gd (insOK a0 a1 a2) (some (ins a0 a1 a2))

noncomputable def mvcc_Store_Put_l2 (x499 : mvcc_row) (a2 : mvcc_Version) (s : (Int × Int)) : Option ((Int × Int) ⊕ (Int)) :=
  match s with | (z567, z568) => (bif (decide (z567 < z568)) then (((geto x499.l (IntKind.i64.wrap (iShr .u64 (IntKind.u64.wrap (IntKind.i64.wrap (z567 + z568))) (1:Int)))).bind fun x580 => ((mvcc_ahead x580 a2.Epoch a2.Index).bind fun t591 => (some (!t591)))).bind fun z596 => (bif (!z596) then (some (Sum.inl ((IntKind.i64.wrap ((IntKind.i64.wrap (iShr .u64 (IntKind.u64.wrap (IntKind.i64.wrap (z567 + z568))) (1:Int))) + (1:Int))), z568))) else (some (Sum.inl (z567, (IntKind.i64.wrap (iShr .u64 (IntKind.u64.wrap (IntKind.i64.wrap (z567 + z568))) (1:Int)))))))) else (inrO (some z567)))
noncomputable def mvcc_Store_Put_j3 (x499 : mvcc_row) (z602 : Int) (a2 : mvcc_Version) (z447 : (List Int)) (z489 : mvcc_Store) (t458 : (Int × Bool)) (_s : Unit) : Option ((Option mvcc_Store)) :=
  ((slices_Insert_mvcc_Version_mvcc_Version x499.l z602 ([({ Epoch := a2.Epoch, Index := a2.Index, Del := a2.Del, Val := z447 } : mvcc_Version)])).bind fun t652 => (some (some ({ rows := (z489.rows.set t458.1.toNat ({ rank := x499.rank, l := t652 } : mvcc_row)) } : mvcc_Store))))
noncomputable def mvcc_Store_Put_j1 (t458 : (Int × Bool)) (a2 : mvcc_Version) (z447 : (List Int)) (z489 : (mvcc_Store)) : Option ((Option mvcc_Store)) :=
  ((geto z489.rows t458.1).bind fun x499 => ((loopO (mvcc_Store_Put_l2 x499 a2) ((0:Int), ((x499.l).length : Int))).bind fun z602 => (joinO (bif (decide (z602 < ((x499.l).length : Int))) then ((geto x499.l z602).bind fun x610 => (bif (x610.Epoch == a2.Epoch) then (bif (x610.Index == a2.Index) then (inrO (some (some ({ rows := (z489.rows.set t458.1.toNat ({ rank := x499.rank, l := (x499.l.set z602.toNat ({ Epoch := a2.Epoch, Index := a2.Index, Del := a2.Del, Val := z447 } : mvcc_Version)) } : mvcc_row)) } : mvcc_Store)))) else (some (Sum.inl ()))) else (some (Sum.inl ())))) else (some (Sum.inl ()))) (mvcc_Store_Put_j3 x499 z602 a2 z447 z489 t458))))
noncomputable def mvcc_Store_Put_j0 (a1 : Nat) (o0 : mvcc_Store) (a2 : mvcc_Version) (z447 : ((List Int))) : Option ((Option mvcc_Store)) :=
  ((number_Rank a1).bind fun t453 => ((mvcc_Store_find (some o0) t453).bind fun t458 => (((bif (!t458.2) then ((number_Rank a1).bind fun t468 => ((slices_Insert_mvcc_row_mvcc_row o0.rows t458.1 ([({ rank := t468, l := [] } : mvcc_row)])).bind fun t480 => (some ({ rows := t480 } : mvcc_Store)))) else (some o0))).bind (mvcc_Store_Put_j1 t458 a2 z447))))
noncomputable def mvcc_Store_Put (a0 : (Option mvcc_Store)) (a1 : Nat) (a2 : mvcc_Version) : Option ((Option mvcc_Store)) :=
  (match a0 with | none => (some none) | some o0 => ((slices_Clone_byte_byte a2.Val).bind fun t432 => (((bif a2.Del then (some ([])) else (some t432))).bind (mvcc_Store_Put_j0 a1 o0 a2))))

noncomputable def lane_State_finish_l0 (a1 : api_Command) (s : (lane_State × Int)) : Option ((lane_State × Int) ⊕ (api_Effect × (Option lane_State))) :=
  match s with | (z445, z446) => (bif (decide (z446 < ((a1.Writes).length : Int))) then ((geto a1.Writes z446).bind fun x457 => ((mvcc_Store_Put z445.store x457.At ({ Epoch := a1.Epoch, Index := a1.Index, Del := x457.Del, Val := x457.Val } : mvcc_Version)).bind fun t493 => (some (Sum.inl (({ wide := z445.wide, epoch := z445.epoch, store := t493, locks := z445.locks, last := z445.last, book := z445.book, open_ := z445.open_, out := z445.out, used := z445.used } : lane_State), (IntKind.i64.wrap (z446 + (1:Int)))))))) else (inrO (some (({ Kind := (3:Int), ID := a1.ID, R := zero_api_Reply } : api_Effect), (some z445)))))
noncomputable def lane_State_finish (a0 : (Option lane_State)) (a1 : api_Command) : Option (api_Effect × (Option lane_State)) :=
  (match a0 with | none => none | some o0 => ((locks_Table_Drop o0.locks a1.ID).bind fun t352 => (bif t352.1 then (bif (a1.E == (0:Int)) then (loopO (lane_State_finish_l0 a1) (({ wide := o0.wide, epoch := o0.epoch, store := o0.store, locks := t352.2, last := o0.last, book := o0.book, open_ := o0.open_, out := o0.out, used := o0.used } : lane_State), (0:Int))) else (some (({ Kind := (3:Int), ID := a1.ID, R := zero_api_Reply } : api_Effect), (some ({ wide := o0.wide, epoch := o0.epoch, store := o0.store, locks := t352.2, last := o0.last, book := o0.book, open_ := o0.open_, out := o0.out, used := o0.used } : lane_State))))) else (some (({ Kind := (3:Int), ID := a1.ID, R := zero_api_Reply } : api_Effect), (some ({ wide := o0.wide, epoch := o0.epoch, store := o0.store, locks := t352.2, last := o0.last, book := o0.book, open_ := o0.open_, out := o0.out, used := o0.used } : lane_State)))))))

noncomputable def session_Table_find_1 (a0 : session_row) (a1 : Int) : Option (Int) :=
  ((cmp_Compare_uint64 a0.session a1).bind fun t213 => (some t213))

noncomputable def session_Table_find_l1 (o0 : session_Table) (a1 : Int) (s : (Int × Int)) : Option ((Int × Int) ⊕ (Int)) :=
  match s with | (z334, z335) => (bif (decide (z335 < z334)) then ((geto o0.l (IntKind.i64.wrap (iShr .u64 (IntKind.u64.wrap (IntKind.i64.wrap (z335 + z334))) (1:Int)))).bind fun x345 => ((session_Table_find_1 x345 a1).bind fun t359 => (bif (decide (t359 < (0:Int))) then (some (Sum.inl (z334, (IntKind.i64.wrap ((IntKind.i64.wrap (iShr .u64 (IntKind.u64.wrap (IntKind.i64.wrap (z335 + z334))) (1:Int))) + (1:Int)))))) else (some (Sum.inl ((IntKind.i64.wrap (iShr .u64 (IntKind.u64.wrap (IntKind.i64.wrap (z335 + z334))) (1:Int))), z335)))))) else (inrO (some z335)))
noncomputable def session_Table_find_j0 (o0 : session_Table) (a1 : Int) (z365 : (Int)) : Option (Int × Bool) :=
  (bif (decide (z365 < ((o0.l).length : Int))) then ((geto o0.l z365).bind fun x372 => ((session_Table_find_1 x372 a1).bind fun t386 => (some (z365, (t386 == (0:Int)))))) else (some (z365, false)))
noncomputable def session_Table_find (a0 : (Option session_Table)) (a1 : Int) : Option (Int × Bool) :=
  (match a0 with | none => (some ((0:Int), false)) | some o0 => ((((loopO (session_Table_find_l1 o0 a1) (((o0.l).length : Int), (0:Int)))).bind (session_Table_find_j0 o0 a1)).bind fun (z391, z392) => (some (z391, z392))))

noncomputable def slices_Insert_session_row_session_row (a0 : (List session_row)) (a1 : Int) (a2 : (List session_row)) : Option ((List session_row)) :=
  gd (insOK a0 a1 a2) (some (ins a0 a1 a2))

noncomputable def session_Table_Put_j1 (t300 : (Int × Bool)) (a2 : Int) (a3 : api_Reply) (z355 : (session_Table)) : Option (Int × (Option session_Table)) :=
  ((geto z355.l t300.1).bind fun x365 => (some ((0:Int), (some ({ l := ((z355.l.set t300.1.toNat ({ session := x365.session, seq := a2, r := x365.r } : session_row)).set t300.1.toNat ({ session := ({ session := x365.session, seq := a2, r := x365.r } : session_row).session, seq := ({ session := x365.session, seq := a2, r := x365.r } : session_row).seq, r := a3 } : session_row)) } : session_Table)))))
noncomputable def session_Table_Put_j0 (t300 : (Int × Bool)) (o0 : session_Table) (a1 : Int) (a2 : Int) (a3 : api_Reply) (_s : Unit) : Option (Int × (Option session_Table)) :=
  (((bif (!t300.2) then ((slices_Insert_session_row_session_row o0.l t300.1 ([({ session := a1, seq := (0:Int), r := zero_api_Reply } : session_row)])).bind fun t346 => (some ({ l := t346 } : session_Table))) else (some o0))).bind (session_Table_Put_j1 t300 a2 a3))
noncomputable def session_Table_Put (a0 : (Option session_Table)) (a1 : Int) (a2 : Int) (a3 : api_Reply) : Option (Int × (Option session_Table)) :=
  (match a0 with | none => (some ((2:Int), none)) | some o0 => (bif (a2 == (0:Int)) then (some ((1:Int), (some o0))) else ((session_Table_find (some o0) a1).bind fun t300 => (joinO (bif t300.2 then ((geto o0.l t300.1).bind fun x310 => (bif (decide (x310.seq ≥ a2)) then (inrO (some ((10:Int), (some o0)))) else (some (Sum.inl ())))) else (some (Sum.inl ()))) (session_Table_Put_j0 t300 o0 a1 a2 a3)))))

noncomputable def session_Table_Last (a0 : (Option session_Table)) (a1 : Int) : Option (Int) :=
  (match a0 with | none => ((session_Table_find none a1).bind fun t285 => (bif (!t285.2) then (some (0:Int)) else none)) | some o0 => ((session_Table_find (some o0) a1).bind fun t291 => (bif (!t291.2) then (some (0:Int)) else ((geto o0.l t291.1).bind fun x300 => (some x300.seq)))))

noncomputable def lane_State_late (a0 : (Option lane_State)) (a1 : api_ID) : Option (api_Effect) :=
  (match a0 with | none => none | some o0 => ((session_Table_Last o0.last a1.Session).bind fun t335 => (bif (decide (t335 ≤ a1.Seq)) then (some zero_api_Effect) else (some ({ Kind := (4:Int), ID := a1, R := ({ E := (10:Int), Epoch := (0:Int), Index := (0:Int), Gots := [], Scans := [] } : api_Reply) } : api_Effect)))))

noncomputable def slices_Clone_api_Part_api_Part (a0 : (List api_Part)) : Option ((List api_Part)) :=
  gd (room ([] : (List api_Part)) a0) (some a0)

noncomputable def lane_State_find_1 (a0 : api_Decision) (a1 : api_ID) : Option (Int) :=
  ((cmp_Compare_uint64 a0.ID.Session a1.Session).bind fun t367 => ((cmp_Compare_uint64 a0.ID.Seq a1.Seq).bind fun t372 => ((cmp_Or_int ([t367, t372])).bind fun t384 => (some t384))))

noncomputable def lane_State_find_l1 (o0 : lane_State) (a1 : api_ID) (s : (Int × Int)) : Option ((Int × Int) ⊕ (Int)) :=
  match s with | (z485, z486) => (bif (decide (z486 < z485)) then ((geto o0.open_ (IntKind.i64.wrap (iShr .u64 (IntKind.u64.wrap (IntKind.i64.wrap (z486 + z485))) (1:Int)))).bind fun x498 => ((lane_State_find_1 x498 a1).bind fun t509 => (bif (decide (t509 < (0:Int))) then (some (Sum.inl (z485, (IntKind.i64.wrap ((IntKind.i64.wrap (iShr .u64 (IntKind.u64.wrap (IntKind.i64.wrap (z486 + z485))) (1:Int))) + (1:Int)))))) else (some (Sum.inl ((IntKind.i64.wrap (iShr .u64 (IntKind.u64.wrap (IntKind.i64.wrap (z486 + z485))) (1:Int))), z486)))))) else (inrO (some z486)))
noncomputable def lane_State_find_j0 (o0 : lane_State) (a1 : api_ID) (z515 : (Int)) : Option (Int × Bool) :=
  (bif (decide (z515 < ((o0.open_).length : Int))) then ((geto o0.open_ z515).bind fun x524 => ((lane_State_find_1 x524 a1).bind fun t535 => (some (z515, (t535 == (0:Int)))))) else (some (z515, false)))
noncomputable def lane_State_find (a0 : (Option lane_State)) (a1 : api_ID) : Option (Int × Bool) :=
  (match a0 with | none => none | some o0 => ((((loopO (lane_State_find_l1 o0 a1) (((o0.open_).length : Int), (0:Int)))).bind (lane_State_find_j0 o0 a1)).bind fun (z540, z541) => (some (z540, z541))))

noncomputable def slices_Insert_api_Decision_api_Decision (a0 : (List api_Decision)) (a1 : Int) (a2 : (List api_Decision)) : Option ((List api_Decision)) :=
  gd (insOK a0 a1 a2) (some (ins a0 a1 a2))

noncomputable def lane_State_decide_j0 (_s : Unit) : Option (api_Effect × (Option lane_State)) :=
  none
noncomputable def lane_State_decide_j2 (a2 : api_Command) (a1 : Int) (z784 : (lane_State)) : Option (api_Effect × (Option lane_State)) :=
  (some (({ Kind := (4:Int), ID := a2.ID, R := ({ E := (9:Int), Epoch := a2.Epoch, Index := a1, Gots := [], Scans := [] } : api_Reply) } : api_Effect), (some z784)))
noncomputable def lane_State_decide_j1 (o0 : lane_State) (a2 : api_Command) (a1 : Int) (_s : Unit) : Option (api_Effect × (Option lane_State)) :=
  ((session_Table_Put o0.last a2.ID.Session a2.ID.Seq ({ E := (9:Int), Epoch := a2.Epoch, Index := a1, Gots := [], Scans := [] } : api_Reply)).bind fun t665 => (bif (t665.1 != (0:Int)) then ((lane_State_late (some ({ wide := o0.wide, epoch := o0.epoch, store := o0.store, locks := o0.locks, last := t665.2, book := o0.book, open_ := o0.open_, out := o0.out, used := o0.used } : lane_State)) a2.ID).bind fun t671 => (some (t671, (some ({ wide := o0.wide, epoch := o0.epoch, store := o0.store, locks := o0.locks, last := t665.2, book := o0.book, open_ := o0.open_, out := o0.out, used := o0.used } : lane_State))))) else (((bif (a2.Shards != (0:Int)) then (bif ((9:Int) == (0:Int)) then ((slices_Clone_api_Part_api_Part a2.Parts).bind fun t699 => ((lane_State_find (some ({ wide := o0.wide, epoch := o0.epoch, store := o0.store, locks := o0.locks, last := t665.2, book := o0.book, open_ := o0.open_, out := o0.out, used := o0.used } : lane_State)) a2.ID).bind fun t708 => ((slices_Insert_api_Decision_api_Decision (({ wide := o0.wide, epoch := o0.epoch, store := o0.store, locks := o0.locks, last := t665.2, book := o0.book, open_ := o0.open_, out := o0.out, used := o0.used } : lane_State).open_) t708.1 ([({ ID := a2.ID, E := (9:Int), Epoch := a2.Epoch, Index := a1, Shards := a2.Shards, Parts := t699 } : api_Decision)])).bind fun t738 => (some ({ wide := ({ wide := o0.wide, epoch := o0.epoch, store := o0.store, locks := o0.locks, last := t665.2, book := o0.book, open_ := o0.open_, out := o0.out, used := o0.used } : lane_State).wide, epoch := ({ wide := o0.wide, epoch := o0.epoch, store := o0.store, locks := o0.locks, last := t665.2, book := o0.book, open_ := o0.open_, out := o0.out, used := o0.used } : lane_State).epoch, store := ({ wide := o0.wide, epoch := o0.epoch, store := o0.store, locks := o0.locks, last := t665.2, book := o0.book, open_ := o0.open_, out := o0.out, used := o0.used } : lane_State).store, locks := ({ wide := o0.wide, epoch := o0.epoch, store := o0.store, locks := o0.locks, last := t665.2, book := o0.book, open_ := o0.open_, out := o0.out, used := o0.used } : lane_State).locks, last := ({ wide := o0.wide, epoch := o0.epoch, store := o0.store, locks := o0.locks, last := t665.2, book := o0.book, open_ := o0.open_, out := o0.out, used := o0.used } : lane_State).last, book := ({ wide := o0.wide, epoch := o0.epoch, store := o0.store, locks := o0.locks, last := t665.2, book := o0.book, open_ := o0.open_, out := o0.out, used := o0.used } : lane_State).book, open_ := t738, out := ({ wide := o0.wide, epoch := o0.epoch, store := o0.store, locks := o0.locks, last := t665.2, book := o0.book, open_ := o0.open_, out := o0.out, used := o0.used } : lane_State).out, used := ({ wide := o0.wide, epoch := o0.epoch, store := o0.store, locks := o0.locks, last := t665.2, book := o0.book, open_ := o0.open_, out := o0.out, used := o0.used } : lane_State).used } : lane_State))))) else ((lane_State_find (some ({ wide := o0.wide, epoch := o0.epoch, store := o0.store, locks := o0.locks, last := t665.2, book := o0.book, open_ := o0.open_, out := o0.out, used := o0.used } : lane_State)) a2.ID).bind fun t747 => ((slices_Insert_api_Decision_api_Decision (({ wide := o0.wide, epoch := o0.epoch, store := o0.store, locks := o0.locks, last := t665.2, book := o0.book, open_ := o0.open_, out := o0.out, used := o0.used } : lane_State).open_) t747.1 ([({ ID := a2.ID, E := (9:Int), Epoch := a2.Epoch, Index := a1, Shards := a2.Shards, Parts := [] } : api_Decision)])).bind fun t775 => (some ({ wide := ({ wide := o0.wide, epoch := o0.epoch, store := o0.store, locks := o0.locks, last := t665.2, book := o0.book, open_ := o0.open_, out := o0.out, used := o0.used } : lane_State).wide, epoch := ({ wide := o0.wide, epoch := o0.epoch, store := o0.store, locks := o0.locks, last := t665.2, book := o0.book, open_ := o0.open_, out := o0.out, used := o0.used } : lane_State).epoch, store := ({ wide := o0.wide, epoch := o0.epoch, store := o0.store, locks := o0.locks, last := t665.2, book := o0.book, open_ := o0.open_, out := o0.out, used := o0.used } : lane_State).store, locks := ({ wide := o0.wide, epoch := o0.epoch, store := o0.store, locks := o0.locks, last := t665.2, book := o0.book, open_ := o0.open_, out := o0.out, used := o0.used } : lane_State).locks, last := ({ wide := o0.wide, epoch := o0.epoch, store := o0.store, locks := o0.locks, last := t665.2, book := o0.book, open_ := o0.open_, out := o0.out, used := o0.used } : lane_State).last, book := ({ wide := o0.wide, epoch := o0.epoch, store := o0.store, locks := o0.locks, last := t665.2, book := o0.book, open_ := o0.open_, out := o0.out, used := o0.used } : lane_State).book, open_ := t775, out := ({ wide := o0.wide, epoch := o0.epoch, store := o0.store, locks := o0.locks, last := t665.2, book := o0.book, open_ := o0.open_, out := o0.out, used := o0.used } : lane_State).out, used := ({ wide := o0.wide, epoch := o0.epoch, store := o0.store, locks := o0.locks, last := t665.2, book := o0.book, open_ := o0.open_, out := o0.out, used := o0.used } : lane_State).used } : lane_State))))) else (some ({ wide := o0.wide, epoch := o0.epoch, store := o0.store, locks := o0.locks, last := t665.2, book := o0.book, open_ := o0.open_, out := o0.out, used := o0.used } : lane_State)))).bind (lane_State_decide_j2 a2 a1))))
noncomputable def lane_State_decide_j4 (a2 : api_Command) (a1 : Int) (z904 : (lane_State)) : Option (api_Effect × (Option lane_State)) :=
  (some (({ Kind := (4:Int), ID := a2.ID, R := ({ E := a2.R.E, Epoch := a2.Epoch, Index := a1, Gots := a2.R.Gots, Scans := a2.R.Scans } : api_Reply) } : api_Effect), (some z904)))
noncomputable def lane_State_decide_j3 (o0 : lane_State) (a2 : api_Command) (a1 : Int) (_s : Unit) : Option (api_Effect × (Option lane_State)) :=
  ((session_Table_Put o0.last a2.ID.Session a2.ID.Seq ({ E := a2.R.E, Epoch := a2.Epoch, Index := a1, Gots := a2.R.Gots, Scans := a2.R.Scans } : api_Reply)).bind fun t823 => (bif (t823.1 != (0:Int)) then ((lane_State_late (some ({ wide := o0.wide, epoch := o0.epoch, store := o0.store, locks := o0.locks, last := t823.2, book := o0.book, open_ := o0.open_, out := o0.out, used := o0.used } : lane_State)) a2.ID).bind fun t829 => (some (t829, (some ({ wide := o0.wide, epoch := o0.epoch, store := o0.store, locks := o0.locks, last := t823.2, book := o0.book, open_ := o0.open_, out := o0.out, used := o0.used } : lane_State))))) else (((bif (a2.Shards != (0:Int)) then ((slices_Clone_api_Part_api_Part a2.Parts).bind fun t856 => ((lane_State_find (some ({ wide := o0.wide, epoch := o0.epoch, store := o0.store, locks := o0.locks, last := t823.2, book := o0.book, open_ := o0.open_, out := o0.out, used := o0.used } : lane_State)) a2.ID).bind fun t865 => ((slices_Insert_api_Decision_api_Decision (({ wide := o0.wide, epoch := o0.epoch, store := o0.store, locks := o0.locks, last := t823.2, book := o0.book, open_ := o0.open_, out := o0.out, used := o0.used } : lane_State).open_) t865.1 ([({ ID := a2.ID, E := a2.R.E, Epoch := a2.Epoch, Index := a1, Shards := a2.Shards, Parts := t856 } : api_Decision)])).bind fun t895 => (some ({ wide := ({ wide := o0.wide, epoch := o0.epoch, store := o0.store, locks := o0.locks, last := t823.2, book := o0.book, open_ := o0.open_, out := o0.out, used := o0.used } : lane_State).wide, epoch := ({ wide := o0.wide, epoch := o0.epoch, store := o0.store, locks := o0.locks, last := t823.2, book := o0.book, open_ := o0.open_, out := o0.out, used := o0.used } : lane_State).epoch, store := ({ wide := o0.wide, epoch := o0.epoch, store := o0.store, locks := o0.locks, last := t823.2, book := o0.book, open_ := o0.open_, out := o0.out, used := o0.used } : lane_State).store, locks := ({ wide := o0.wide, epoch := o0.epoch, store := o0.store, locks := o0.locks, last := t823.2, book := o0.book, open_ := o0.open_, out := o0.out, used := o0.used } : lane_State).locks, last := ({ wide := o0.wide, epoch := o0.epoch, store := o0.store, locks := o0.locks, last := t823.2, book := o0.book, open_ := o0.open_, out := o0.out, used := o0.used } : lane_State).last, book := ({ wide := o0.wide, epoch := o0.epoch, store := o0.store, locks := o0.locks, last := t823.2, book := o0.book, open_ := o0.open_, out := o0.out, used := o0.used } : lane_State).book, open_ := t895, out := ({ wide := o0.wide, epoch := o0.epoch, store := o0.store, locks := o0.locks, last := t823.2, book := o0.book, open_ := o0.open_, out := o0.out, used := o0.used } : lane_State).out, used := ({ wide := o0.wide, epoch := o0.epoch, store := o0.store, locks := o0.locks, last := t823.2, book := o0.book, open_ := o0.open_, out := o0.out, used := o0.used } : lane_State).used } : lane_State))))) else (some ({ wide := o0.wide, epoch := o0.epoch, store := o0.store, locks := o0.locks, last := t823.2, book := o0.book, open_ := o0.open_, out := o0.out, used := o0.used } : lane_State)))).bind (lane_State_decide_j4 a2 a1))))
noncomputable def lane_State_decide_j6 (a2 : api_Command) (a1 : Int) (z1013 : (lane_State)) : Option (api_Effect × (Option lane_State)) :=
  (some (({ Kind := (4:Int), ID := a2.ID, R := ({ E := a2.R.E, Epoch := a2.Epoch, Index := a1, Gots := a2.R.Gots, Scans := a2.R.Scans } : api_Reply) } : api_Effect), (some z1013)))
noncomputable def lane_State_decide_j5 (o0 : lane_State) (a2 : api_Command) (a1 : Int) (_s : Unit) : Option (api_Effect × (Option lane_State)) :=
  ((session_Table_Put o0.last a2.ID.Session a2.ID.Seq ({ E := a2.R.E, Epoch := a2.Epoch, Index := a1, Gots := a2.R.Gots, Scans := a2.R.Scans } : api_Reply)).bind fun t943 => (bif (t943.1 != (0:Int)) then ((lane_State_late (some ({ wide := o0.wide, epoch := o0.epoch, store := o0.store, locks := o0.locks, last := t943.2, book := o0.book, open_ := o0.open_, out := o0.out, used := o0.used } : lane_State)) a2.ID).bind fun t949 => (some (t949, (some ({ wide := o0.wide, epoch := o0.epoch, store := o0.store, locks := o0.locks, last := t943.2, book := o0.book, open_ := o0.open_, out := o0.out, used := o0.used } : lane_State))))) else (((bif (a2.Shards != (0:Int)) then ((lane_State_find (some ({ wide := o0.wide, epoch := o0.epoch, store := o0.store, locks := o0.locks, last := t943.2, book := o0.book, open_ := o0.open_, out := o0.out, used := o0.used } : lane_State)) a2.ID).bind fun t976 => ((slices_Insert_api_Decision_api_Decision (({ wide := o0.wide, epoch := o0.epoch, store := o0.store, locks := o0.locks, last := t943.2, book := o0.book, open_ := o0.open_, out := o0.out, used := o0.used } : lane_State).open_) t976.1 ([({ ID := a2.ID, E := a2.R.E, Epoch := a2.Epoch, Index := a1, Shards := a2.Shards, Parts := [] } : api_Decision)])).bind fun t1004 => (some ({ wide := ({ wide := o0.wide, epoch := o0.epoch, store := o0.store, locks := o0.locks, last := t943.2, book := o0.book, open_ := o0.open_, out := o0.out, used := o0.used } : lane_State).wide, epoch := ({ wide := o0.wide, epoch := o0.epoch, store := o0.store, locks := o0.locks, last := t943.2, book := o0.book, open_ := o0.open_, out := o0.out, used := o0.used } : lane_State).epoch, store := ({ wide := o0.wide, epoch := o0.epoch, store := o0.store, locks := o0.locks, last := t943.2, book := o0.book, open_ := o0.open_, out := o0.out, used := o0.used } : lane_State).store, locks := ({ wide := o0.wide, epoch := o0.epoch, store := o0.store, locks := o0.locks, last := t943.2, book := o0.book, open_ := o0.open_, out := o0.out, used := o0.used } : lane_State).locks, last := ({ wide := o0.wide, epoch := o0.epoch, store := o0.store, locks := o0.locks, last := t943.2, book := o0.book, open_ := o0.open_, out := o0.out, used := o0.used } : lane_State).last, book := ({ wide := o0.wide, epoch := o0.epoch, store := o0.store, locks := o0.locks, last := t943.2, book := o0.book, open_ := o0.open_, out := o0.out, used := o0.used } : lane_State).book, open_ := t1004, out := ({ wide := o0.wide, epoch := o0.epoch, store := o0.store, locks := o0.locks, last := t943.2, book := o0.book, open_ := o0.open_, out := o0.out, used := o0.used } : lane_State).out, used := ({ wide := o0.wide, epoch := o0.epoch, store := o0.store, locks := o0.locks, last := t943.2, book := o0.book, open_ := o0.open_, out := o0.out, used := o0.used } : lane_State).used } : lane_State)))) else (some ({ wide := o0.wide, epoch := o0.epoch, store := o0.store, locks := o0.locks, last := t943.2, book := o0.book, open_ := o0.open_, out := o0.out, used := o0.used } : lane_State)))).bind (lane_State_decide_j6 a2 a1))))
noncomputable def lane_State_decide (a0 : (Option lane_State)) (a1 : Int) (a2 : api_Command) : Option (api_Effect × (Option lane_State)) :=
  (match a0 with | none => (bif (a2.R.E == (0:Int)) then none else (joinO (bif (a2.R.E != (0:Int)) then (bif (decide (a2.ID.Session ≥ (9223372036854775808:Int))) then (inrO (some (zero_api_Effect, none))) else (some (Sum.inl ()))) else (some (Sum.inl ()))) (lane_State_decide_j0))) | some o0 => (bif (a2.R.E == (0:Int)) then (bif (a2.Epoch != o0.epoch) then (joinO (bif ((9:Int) != (0:Int)) then (bif (decide (a2.ID.Session ≥ (9223372036854775808:Int))) then (inrO (some (zero_api_Effect, (some o0)))) else (some (Sum.inl ()))) else (some (Sum.inl ()))) (lane_State_decide_j1 o0 a2 a1)) else (joinO (bif (a2.R.E != (0:Int)) then (bif (decide (a2.ID.Session ≥ (9223372036854775808:Int))) then (inrO (some (zero_api_Effect, (some o0)))) else (some (Sum.inl ()))) else (some (Sum.inl ()))) (lane_State_decide_j3 o0 a2 a1))) else (joinO (bif (a2.R.E != (0:Int)) then (bif (decide (a2.ID.Session ≥ (9223372036854775808:Int))) then (inrO (some (zero_api_Effect, (some o0)))) else (some (Sum.inl ()))) else (some (Sum.inl ()))) (lane_State_decide_j5 o0 a2 a1))))

noncomputable def slices_Delete_api_Decision_api_Decision (a0 : (List api_Decision)) (a1 a2 : Int) : Option ((List api_Decision)) :=
  gd (fits a0 a1 a2) (some (del a0 a1 a2))

noncomputable def policy_Book_Revoke_l0 (o0 : policy_Book) (a1 : Int) (a2 : Int) (s : (policy_Book × Int × Bool)) : Option ((policy_Book × Int × Bool) ⊕ (Bool × (Option policy_Book))) :=
  match s with | (z288, z289, z290) => (bif (decide (z289 < ((o0.l).length : Int))) then ((geto z288.l z289).bind fun x304 => (bif (x304.r.ID == a1) then (bif (x304.to_ == (0:Int)) then (some (Sum.inl (({ l := (z288.l.set z289.toNat ({ r := x304.r, from_ := x304.from_, to_ := (if (1:Int) > a2 then (1:Int) else a2) } : policy_line)) } : policy_Book), (IntKind.i64.wrap (z289 + (1:Int))), true))) else (some (Sum.inl (z288, (IntKind.i64.wrap (z289 + (1:Int))), z290)))) else (some (Sum.inl (z288, (IntKind.i64.wrap (z289 + (1:Int))), z290))))) else (inrO (some (z290, (some z288)))))
noncomputable def policy_Book_Revoke (a0 : (Option policy_Book)) (a1 : Int) (a2 : Int) : Option (Bool × (Option policy_Book)) :=
  (match a0 with | none => (some (false, none)) | some o0 => (loopO (policy_Book_Revoke_l0 o0 a1 a2) (o0, (0:Int), false)))

noncomputable def policy_Book_Grant (a0 : (Option policy_Book)) (a1 : api_Rule) (a2 : Int) : Option ((Option policy_Book)) :=
  (match a0 with | none => (some none) | some o0 => ((policy_Book_Revoke (some o0) a1.ID a2).bind fun t220 => (match t220.2 with | none => none | some y225 => (gd (room y225.l ([({ r := a1, from_ := a2, to_ := (0:Int) } : policy_line)])) (some (some ({ l := (y225.l ++ ([({ r := a1, from_ := a2, to_ := (0:Int) } : policy_line)])) } : policy_Book)))))))

noncomputable def lane_State_give_1 (a0 : lane_used) (a1 : Int) : Option (Int) :=
  ((cmp_Compare_uint64 a0.rule a1).bind fun t279 => (some t279))

noncomputable def slices_Insert_lane_used_lane_used (a0 : (List lane_used)) (a1 : Int) (a2 : (List lane_used)) : Option ((List lane_used)) :=
  gd (insOK a0 a1 a2) (some (ins a0 a1 a2))

noncomputable def lane_Pad_j0 (a0 : api_Write) (z515 : ((List Int))) : Option (api_Write) :=
  (some ({ At := a0.At, Del := a0.Del, Val := z515 } : api_Write))
noncomputable def lane_Pad (a0 : api_Write) (a1 : Int) : Option (api_Write) :=
  (gd (mkOK (if (0:Int) > a1 then (0:Int) else a1) (if (0:Int) > a1 then (0:Int) else a1)) (((bif a0.Del then (some ([])) else (some (cpy (List.replicate (Int.toNat (if (0:Int) > a1 then (0:Int) else a1)) (0:Int)) a0.Val)))).bind (lane_Pad_j0 a0)))

noncomputable def lane_State_give_l1 (o0 : lane_State) (a2 : api_Command) (s : (Int × Int)) : Option ((Int × Int) ⊕ (Int)) :=
  match s with | (z756, z757) => (bif (decide (z757 < z756)) then ((geto o0.used (IntKind.i64.wrap (iShr .u64 (IntKind.u64.wrap (IntKind.i64.wrap (z757 + z756))) (1:Int)))).bind fun x767 => ((lane_State_give_1 x767 a2.Rule.ID).bind fun t772 => (bif (decide (t772 < (0:Int))) then (some (Sum.inl (z756, (IntKind.i64.wrap ((IntKind.i64.wrap (iShr .u64 (IntKind.u64.wrap (IntKind.i64.wrap (z757 + z756))) (1:Int))) + (1:Int)))))) else (some (Sum.inl ((IntKind.i64.wrap (iShr .u64 (IntKind.u64.wrap (IntKind.i64.wrap (z757 + z756))) (1:Int))), z757)))))) else (inrO (some z757)))
noncomputable def lane_State_give_j0 (o0 : lane_State) (a2 : api_Command) (z778 : (Int)) : Option (Int × Bool) :=
  (bif (decide (z778 < ((o0.used).length : Int))) then ((geto o0.used z778).bind fun x785 => ((lane_State_give_1 x785 a2.Rule.ID).bind fun t790 => (some (z778, (t790 == (0:Int)))))) else (some (z778, false)))
noncomputable def lane_State_give_l6 (z903 : lane_State) (a2 : api_Command) (s : (Int × (List api_Item))) : Option ((Int × (List api_Item)) ⊕ ((List api_Item))) :=
  match s with | (z1051, z1052) => (bif (decide (z1051 < ((z903.out).length : Int))) then ((geto z903.out z1051).bind fun x1064 => (bif (x1064.To == a2.Rule.To) then (gd (room z1052 ([x1064])) (some (Sum.inl ((IntKind.i64.wrap (z1051 + (1:Int))), (z1052 ++ ([x1064])))))) else (some (Sum.inl ((IntKind.i64.wrap (z1051 + (1:Int))), z1052))))) else (inrO (some z1052)))
noncomputable def lane_State_give_j5 (z795 : Int) (a2 : api_Command) (z808 : Int) (z903 : (lane_State)) : Option (lane_State) :=
  ((geto z903.used z795).bind fun x925 => ((geto a2.Writes (0:Int)).bind fun x938 => ((loopO (lane_State_give_l6 z903 a2) ((0:Int), [])).bind fun z1097 => ((lane_Pad x938 z903.wide).bind fun t1102 => (gd (room z903.out ([({ To := a2.Rule.To, N := (IntKind.u64.wrap (IntKind.i64.wrap (((z1097).length : Int) + (1:Int)))), Rule := a2.Rule.ID, Epoch := a2.Epoch, W := t1102 } : api_Item)])) (some ({ wide := z903.wide, epoch := z903.epoch, store := z903.store, locks := z903.locks, last := z903.last, book := z903.book, open_ := z903.open_, out := (z903.out ++ ([({ To := a2.Rule.To, N := (IntKind.u64.wrap (IntKind.i64.wrap (((z1097).length : Int) + (1:Int)))), Rule := a2.Rule.ID, Epoch := a2.Epoch, W := t1102 } : api_Item)])), used := ((z903.used.set z795.toNat ({ rule := x925.rule, epoch := a2.Epoch, n := x925.n } : lane_used)).set z795.toNat ({ rule := ({ rule := x925.rule, epoch := a2.Epoch, n := x925.n } : lane_used).rule, epoch := ({ rule := x925.rule, epoch := a2.Epoch, n := x925.n } : lane_used).epoch, n := (IntKind.i64.wrap (z808 + (1:Int))) } : lane_used)) } : lane_State)))))))
noncomputable def lane_State_give_j4 (a2 : api_Command) (z840 : Int) (a1 : Int) (z1126 : (lane_State)) : Option (api_Effect × (Option lane_State)) :=
  (some (({ Kind := (4:Int), ID := a2.ID, R := ({ E := z840, Epoch := a2.Epoch, Index := a1, Gots := [], Scans := [] } : api_Reply) } : api_Effect), (some z1126)))
noncomputable def lane_State_give_j3 (o0 : lane_State) (a2 : api_Command) (a1 : Int) (z796 : Bool) (z795 : Int) (z808 : Int) (z840 : (Int)) : Option (api_Effect × (Option lane_State)) :=
  ((session_Table_Put o0.last a2.ID.Session a2.ID.Seq ({ E := z840, Epoch := a2.Epoch, Index := a1, Gots := [], Scans := [] } : api_Reply)).bind fun t864 => (bif (t864.1 != (0:Int)) then ((lane_State_late (some ({ wide := o0.wide, epoch := o0.epoch, store := o0.store, locks := o0.locks, last := t864.2, book := o0.book, open_ := o0.open_, out := o0.out, used := o0.used } : lane_State)) a2.ID).bind fun t870 => (some (t870, (some ({ wide := o0.wide, epoch := o0.epoch, store := o0.store, locks := o0.locks, last := t864.2, book := o0.book, open_ := o0.open_, out := o0.out, used := o0.used } : lane_State))))) else (((bif (z840 == (0:Int)) then (((bif (!z796) then ((slices_Insert_lane_used_lane_used o0.used z795 ([({ rule := a2.Rule.ID, epoch := (0:Int), n := (0:Int) } : lane_used)])).bind fun t894 => (some ({ wide := o0.wide, epoch := o0.epoch, store := o0.store, locks := o0.locks, last := t864.2, book := o0.book, open_ := o0.open_, out := o0.out, used := t894 } : lane_State))) else (some ({ wide := o0.wide, epoch := o0.epoch, store := o0.store, locks := o0.locks, last := t864.2, book := o0.book, open_ := o0.open_, out := o0.out, used := o0.used } : lane_State)))).bind (lane_State_give_j5 z795 a2 z808)) else (some ({ wide := o0.wide, epoch := o0.epoch, store := o0.store, locks := o0.locks, last := t864.2, book := o0.book, open_ := o0.open_, out := o0.out, used := o0.used } : lane_State)))).bind (lane_State_give_j4 a2 z840 a1))))
noncomputable def lane_State_give_j2 (a2 : api_Command) (o0 : lane_State) (a1 : Int) (z796 : Bool) (z795 : Int) (z808 : (Int)) : Option (api_Effect × (Option lane_State)) :=
  (((bif (a2.R.E != (0:Int)) then (some a2.R.E) else (bif (a2.Epoch != o0.epoch) then (some (9:Int)) else (bif (((a2.Writes).length : Int) != (1:Int)) then (some (1:Int)) else (bif (decide (z808 ≥ a2.Rule.Quota)) then (some (13:Int)) else (some a2.R.E)))))).bind (lane_State_give_j3 o0 a2 a1 z796 z795 z808))
noncomputable def lane_State_give (a0 : (Option lane_State)) (a1 : Int) (a2 : api_Command) : Option (api_Effect × (Option lane_State)) :=
  (match a0 with | none => none | some o0 => ((((loopO (lane_State_give_l1 o0 a2) (((o0.used).length : Int), (0:Int)))).bind (lane_State_give_j0 o0 a2)).bind fun (z795, z796) => (((bif z796 then ((geto o0.used z795).bind fun x802 => (bif (x802.epoch == a2.Epoch) then (some x802.n) else (some (0:Int)))) else (some (0:Int)))).bind (lane_State_give_j2 a2 o0 a1 z796 z795))))

noncomputable def lane_State_Apply (a0 : (Option lane_State)) (a1 : Int) (a2 : api_Command) : Option (api_Effect × (Option lane_State)) :=
  (match a0 with | none => (some (zero_api_Effect, none)) | some o0 => (bif (a2.Kind == (1:Int)) then ((lane_State_shut (some o0) a2).bind fun t262 => (match t262.2 with | none => none | some y271 => (some (t262.1, (some y271))))) else (bif (a2.Kind == (2:Int)) then ((lane_State_prepare (some o0) a2).bind fun t282 => (match t282.2 with | none => none | some y291 => (some (t282.1, (some y291))))) else (bif (a2.Kind == (3:Int)) then ((lane_State_finish (some o0) a2).bind fun t302 => (match t302.2 with | none => none | some y311 => (some (t302.1, (some y311))))) else (bif (a2.Kind == (4:Int)) then ((lane_State_decide (some o0) a1 a2).bind fun t322 => (match t322.2 with | none => none | some y333 => (some (t322.1, (some y333))))) else (bif (a2.Kind == (5:Int)) then ((lane_State_find (some o0) a2.ID).bind fun t338 => (bif t338.2 then ((slices_Delete_api_Decision_api_Decision o0.open_ t338.1 (IntKind.i64.wrap (t338.1 + (1:Int)))).bind fun t360 => (some (zero_api_Effect, (some ({ wide := o0.wide, epoch := o0.epoch, store := o0.store, locks := o0.locks, last := o0.last, book := o0.book, open_ := t360, out := o0.out, used := o0.used } : lane_State))))) else (some (zero_api_Effect, (some o0))))) else (bif (a2.Kind == (6:Int)) then (bif a2.On then ((policy_Book_Grant o0.book a2.Rule o0.epoch).bind fun t383 => (some (zero_api_Effect, (some ({ wide := o0.wide, epoch := o0.epoch, store := o0.store, locks := o0.locks, last := o0.last, book := t383, open_ := o0.open_, out := o0.out, used := o0.used } : lane_State))))) else ((policy_Book_Revoke o0.book a2.Rule.ID o0.epoch).bind fun t394 => (some (zero_api_Effect, (some ({ wide := o0.wide, epoch := o0.epoch, store := o0.store, locks := o0.locks, last := o0.last, book := t394.2, open_ := o0.open_, out := o0.out, used := o0.used } : lane_State)))))) else (bif (a2.Kind == (7:Int)) then ((lane_State_give (some o0) a1 a2).bind fun t406 => (match t406.2 with | none => none | some y417 => (some (t406.1, (some y417))))) else (some (zero_api_Effect, (some o0)))))))))))

noncomputable def lane_State_Epoch (a0 : (Option lane_State)) : Option (Int) :=
  (match a0 with | none => (some (0:Int)) | some o0 => (some o0.epoch))

noncomputable def law16_awake : Option (Bool) :=
  ((lane_New (4:Int)).bind fun t54 => ((lane_State_Apply (some t54) (1:Int) ({ Kind := (1:Int), ID := ({ Session := (0:Int), Seq := (0:Int) } : api_ID), Epoch := (1:Int), Index := (0:Int), E := (0:Int), Hold := zero_api_Hold, Writes := [], R := zero_api_Reply, Shards := (0:Int), Parts := [], Rule := zero_api_Rule, On := false } : api_Command)).bind fun t77 => (match t77.2 with | none => none | some y88 => (bif (t77.1.Kind == (1:Int)) then ((lane_State_Epoch (some y88)).bind fun t100 => (bif (t100 == (2:Int)) then (some true) else (some false))) else (some false)))))

noncomputable def lane_State_then (a0 : (Option lane_State)) (a1 : Int) : Option (Int) :=
  (match a0 with | none => (some (2:Int)) | some o0 => (bif (decide (a1 ≥ o0.epoch)) then (some (2:Int)) else (bif (decide ((IntKind.u64.wrap ((IntKind.u64.wrap (a1 + (1:Int))) + (8:Int))) < o0.epoch)) then (some (9:Int)) else (some (0:Int)))))

noncomputable def lane_State_Get (a0 : (Option lane_State)) (a1 : Nat) (a2 : Int) : Option (api_Got × Int) :=
  (match a0 with | none => ((lane_State_then none a2).bind fun t443 => (bif (t443 != (0:Int)) then (some (({ Has := false, Val := [] } : api_Got), t443)) else none)) | some o0 => ((lane_State_then (some o0) a2).bind fun t458 => (bif (t458 != (0:Int)) then (some (({ Has := false, Val := [] } : api_Got), t458)) else ((mvcc_Store_Get o0.store a1 a2).bind fun t482 => (some (t482, (0:Int)))))))

noncomputable def law16_LaneEpochs_l1 (a0 : Int) (s : (lane_State × Int)) : Option ((lane_State × Int) ⊕ ((lane_State) ⊕ (Bool))) :=
  match s with | (z751, z752) => (bif (decide (z752 < (Int.tmod (IntKind.i64.wrap a0) (15:Int)))) then ((lane_State_Apply (some z751) (9:Int) ({ Kind := (1:Int), ID := ({ Session := (0:Int), Seq := (0:Int) } : api_ID), Epoch := (IntKind.u64.wrap ((IntKind.u64.wrap (IntKind.i64.wrap (z752 + (1:Int)))) + (1:Int))), Index := (0:Int), E := (0:Int), Hold := zero_api_Hold, Writes := [], R := zero_api_Reply, Shards := (0:Int), Parts := [], Rule := zero_api_Rule, On := false } : api_Command)).bind fun t779 => (match t779.2 with | none => none | some y790 => (bif (t779.1.Kind != (0:Int)) then (inrO (inrO (some false))) else ((lane_State_Apply (some y790) (9:Int) ({ Kind := (1:Int), ID := ({ Session := (0:Int), Seq := (0:Int) } : api_ID), Epoch := (IntKind.u64.wrap (IntKind.i64.wrap (z752 + (1:Int)))), Index := (0:Int), E := (0:Int), Hold := zero_api_Hold, Writes := [], R := zero_api_Reply, Shards := (0:Int), Parts := [], Rule := zero_api_Rule, On := false } : api_Command)).bind fun t809 => (match t809.2 with | none => none | some y820 => (bif (t809.1.Kind != (1:Int)) then (inrO (inrO (some false))) else ((lane_State_Epoch (some y820)).bind fun t823 => (bif (t823 != (IntKind.u64.wrap ((IntKind.u64.wrap (IntKind.i64.wrap (z752 + (1:Int)))) + (1:Int)))) then (inrO (inrO (some false))) else (some (Sum.inl (y820, (IntKind.i64.wrap (z752 + (1:Int)))))))))))))) else (inrO (some (Sum.inl z751))))
noncomputable def law16_LaneEpochs_l2 (a0 : Int) (z829 : lane_State) (a1 : (List Int)) (z886 : (Int)) : Option ((Int) ⊕ (Bool)) :=
  (bif (decide (z886 ≤ (IntKind.u64.wrap ((IntKind.u64.wrap (Int.tmod (IntKind.i64.wrap a0) (15:Int))) + (1:Int))))) then ((lane_State_Get (some z829) (0:Nat) z886).bind fun t896 => (bif (decide (z886 > (IntKind.u64.wrap (Int.tmod (IntKind.i64.wrap a0) (15:Int))))) then (bif (t896.2 != (2:Int)) then (inrO (some false)) else (some (Sum.inl (IntKind.u64.wrap (z886 + (1:Int)))))) else (bif (decide ((IntKind.u64.wrap (z886 + (8:Int))) < (IntKind.u64.wrap (Int.tmod (IntKind.i64.wrap a0) (15:Int))))) then (bif (t896.2 != (9:Int)) then (inrO (some false)) else (some (Sum.inl (IntKind.u64.wrap (z886 + (1:Int)))))) else (bif (t896.2 != (0:Int)) then (inrO (some false)) else (bif (!(t896.1.Has == (decide (z886 ≥ (1:Int))))) then (inrO (some false)) else (bif (decide (z886 ≥ (1:Int))) then (bif (!(sEq (toStr t896.1.Val) (toStr a1))) then (inrO (some false)) else (some (Sum.inl (IntKind.u64.wrap (z886 + (1:Int)))))) else (some (Sum.inl (IntKind.u64.wrap (z886 + (1:Int))))))))))) else (inrO (some true)))
noncomputable def law16_LaneEpochs_j0 (a0 : Int) (a1 : (List Int)) (z829 : (lane_State)) : Option (Bool) :=
  (loopO (law16_LaneEpochs_l2 a0 z829 a1) (0:Int))
noncomputable def law16_LaneEpochs (a0 : Int) (a1 : (List Int)) (a2 : Int) : Option (Bool) :=
  (law16_awake.bind fun t461 => (bif (!t461) then (law16_awake.bind fun t467 => (some t467)) else (bif (decide (((a1).length : Int) > (100:Int))) then (law16_awake.bind fun t473 => (some t473)) else ((lane_New (0:Int)).bind fun t478 => ((lane_State_Apply (some t478) (1:Int) ({ Kind := (2:Int), ID := ({ Session := (0:Int), Seq := (0:Int) } : api_ID), Epoch := (0:Int), Index := (0:Int), E := (0:Int), Hold := ({ ID := ({ Session := (1:Int), Seq := (1:Int) } : api_ID), Epoch := (1:Int), Gets := [], Scans := [], Puts := [(0:Nat)], Data := [] } : api_Hold), Writes := [], R := zero_api_Reply, Shards := (0:Int), Parts := [], Rule := zero_api_Rule, On := false } : api_Command)).bind fun t519 => (match t519.2 with | none => none | some y530 => ((lane_State_Apply (some y530) (2:Int) ({ Kind := (1:Int), ID := ({ Session := (0:Int), Seq := (0:Int) } : api_ID), Epoch := (1:Int), Index := (0:Int), E := (0:Int), Hold := zero_api_Hold, Writes := [], R := zero_api_Reply, Shards := (0:Int), Parts := [], Rule := zero_api_Rule, On := false } : api_Command)).bind fun t548 => (match t548.2 with | none => none | some y559 => ((lane_State_Apply (some y559) (3:Int) ({ Kind := (3:Int), ID := ({ Session := (1:Int), Seq := (1:Int) } : api_ID), Epoch := (1:Int), Index := (3:Int), E := (0:Int), Hold := zero_api_Hold, Writes := [({ At := (0:Nat), Del := false, Val := a1 } : api_Write)], R := zero_api_Reply, Shards := (0:Int), Parts := [], Rule := zero_api_Rule, On := false } : api_Command)).bind fun t595 => (match t595.2 with | none => none | some y606 => (bif (t548.1.Kind != (0:Int)) then (some false) else ((lane_State_Epoch (some y606)).bind fun t609 => (bif (t609 != (1:Int)) then (some false) else (joinO (loopO (law16_LaneEpochs_l1 a0) (y606, (0:Int))) (law16_LaneEpochs_j0 a0 a1)))))))))))))))

noncomputable def math_Signbit (a0 : Nat) : Option (Bool) :=
  (some (decide ((IntKind.i64.wrap (Int.ofNat a0)) < (0:Int))))

noncomputable def ref01_Ahead_j0 (a0 : Nat) (a1 : Nat) (_s : Unit) : Option (Bool) :=
  (some (fLt a0 a1))
noncomputable def ref01_Ahead (a0 : Nat) (a1 : Nat) : Option (Bool) :=
  (bif (fNe a0 a0) then (some false) else (bif (fNe a1 a1) then (some true) else (joinO (bif (fEq a0 (0:Nat)) then (bif (fEq a1 (0:Nat)) then ((math_Signbit a0).bind fun t35 => (bif t35 then ((math_Signbit a1).bind fun t41 => (inrO (some (!t41)))) else (inrO (some false)))) else (some (Sum.inl ()))) else (some (Sum.inl ()))) (ref01_Ahead_j0 a0 a1))))

noncomputable def ref01_Same (a0 : Nat) (a1 : Nat) : Option (Bool) :=
  ((ref01_Ahead a0 a1).bind fun t22 => (bif (!t22) then ((ref01_Ahead a1 a0).bind fun t28 => (some (!t28))) else (some false)))

noncomputable def ref11_Put_l1 (a0 : (List ref11_Version)) (a1 : ref11_Version) (s : ((List ref11_Version) × Int)) : Option (((List ref11_Version) × Int) ⊕ ((List ref11_Version))) :=
  match s with | (z526, z529) => (bif (decide (z529 < ((a0).length : Int))) then ((geto a0 z529).bind fun x539 => ((ref01_Same x539.At a1.At).bind fun t550 => (bif (!t550) then (gd (room z526 ([x539])) (some (Sum.inl ((z526 ++ ([x539])), (IntKind.i64.wrap (z529 + (1:Int))))))) else (bif (x539.Epoch != a1.Epoch) then (gd (room z526 ([x539])) (some (Sum.inl ((z526 ++ ([x539])), (IntKind.i64.wrap (z529 + (1:Int))))))) else (bif (x539.Index != a1.Index) then (gd (room z526 ([x539])) (some (Sum.inl ((z526 ++ ([x539])), (IntKind.i64.wrap (z529 + (1:Int))))))) else (some (Sum.inl (z526, (IntKind.i64.wrap (z529 + (1:Int))))))))))) else (inrO (some z526)))
noncomputable def ref11_Put_j2 (z605 : (List ref11_Version)) (a1 : ref11_Version) (z617 : ((List Int))) : Option ((List ref11_Version)) :=
  (gd (room z605 ([({ At := a1.At, Epoch := a1.Epoch, Index := a1.Index, Del := a1.Del, Val := z617 } : ref11_Version)])) (some (z605 ++ ([({ At := a1.At, Epoch := a1.Epoch, Index := a1.Index, Del := a1.Del, Val := z617 } : ref11_Version)]))))
noncomputable def ref11_Put_j0 (a1 : ref11_Version) (z605 : ((List ref11_Version))) : Option ((List ref11_Version)) :=
  (((bif a1.Del then (some ([])) else (some a1.Val))).bind (ref11_Put_j2 z605 a1))
noncomputable def ref11_Put (a0 : (List ref11_Version)) (a1 : ref11_Version) : Option ((List ref11_Version)) :=
  (((loopO (ref11_Put_l1 a0 a1) ([], (0:Int)))).bind (ref11_Put_j0 a1))

noncomputable def ref11_last_l0 (a0 : (List ref11_Version)) (a1 : Nat) (a2 : Int) (s : (Int × Int)) : Option ((Int × Int) ⊕ (Int)) :=
  match s with | (z224, z225) => (bif (decide (z225 < ((a0).length : Int))) then ((geto a0 z225).bind fun x235 => ((ref01_Same x235.At a1).bind fun t246 => (bif t246 then (bif (decide (x235.Epoch ≤ a2)) then (bif (decide (z224 < (0:Int))) then (some (Sum.inl (z225, (IntKind.i64.wrap (z225 + (1:Int)))))) else ((geto a0 z224).bind fun x260 => (bif (decide (x260.Epoch < x235.Epoch)) then (some (Sum.inl (z225, (IntKind.i64.wrap (z225 + (1:Int)))))) else (bif (x260.Epoch == x235.Epoch) then (bif (decide (x260.Index < x235.Index)) then (some (Sum.inl (z225, (IntKind.i64.wrap (z225 + (1:Int)))))) else (some (Sum.inl (z224, (IntKind.i64.wrap (z225 + (1:Int))))))) else (some (Sum.inl (z224, (IntKind.i64.wrap (z225 + (1:Int)))))))))) else (some (Sum.inl (z224, (IntKind.i64.wrap (z225 + (1:Int))))))) else (some (Sum.inl (z224, (IntKind.i64.wrap (z225 + (1:Int))))))))) else (inrO (some z224)))
noncomputable def ref11_last (a0 : (List ref11_Version)) (a1 : Nat) (a2 : Int) : Option (Int) :=
  (loopO (ref11_last_l0 a0 a1 a2) (((-1):Int), (0:Int)))

noncomputable def ref11_Get (a0 : (List ref11_Version)) (a1 : Nat) (a2 : Int) : Option (api_Got) :=
  ((ref11_last a0 a1 a2).bind fun t42 => (bif (decide (t42 < (0:Int))) then (some ({ Has := false, Val := [] } : api_Got)) else ((geto a0 t42).bind fun x52 => (bif x52.Del then (some ({ Has := false, Val := [] } : api_Got)) else (some ({ Has := true, Val := x52.Val } : api_Got))))))
end Go.Proofs.YtgnkkopjkgdieaaGreat
