/- The models of the Go functions: plain Lean, no memory. -/
import Derived.Test.YtgnkkopjkgdieaaGreatLaneReadsGv
set_option linter.unusedVariables false
set_option linter.unusedSimpArgs false
set_option maxRecDepth 100000
set_option maxHeartbeats 4000000
namespace Go.Proofs.YtgnkkopjkgdieaaGreat
open Go Go.V
structure mvcc_Version where
  Epoch : Int
  Index : Int
  Del : Bool
  Val : (List Int)

structure mvcc_row where
  rank : Int
  l : (List mvcc_Version)

structure mvcc_Store where
  rows : (List mvcc_row)

structure api_ID where
  Session : Int
  Seq : Int

structure api_Hold where
  ID : api_ID
  Epoch : Int
  Gets : (List Nat)
  Scans : (List (Nat × Nat))
  Puts : (List Nat)
  Data : (List Int)

structure locks_Table where
  l : (List api_Hold)

structure api_Got where
  Has : Bool
  Val : (List Int)

structure api_Pair where
  At : Nat
  Val : (List Int)

structure api_Reply where
  E : Int
  Epoch : Int
  Index : Int
  Gots : (List api_Got)
  Scans : (List (List api_Pair))

structure session_row where
  session : Int
  seq : Int
  r : api_Reply

structure session_Table where
  l : (List session_row)

structure api_Rule where
  ID : Int
  From : Int
  To : Int
  Lo : Nat
  Hi : Nat
  Authority : Int
  Quota : Int

structure policy_line where
  r : api_Rule
  from_ : Int
  to_ : Int

structure policy_Book where
  l : (List policy_line)

structure api_Write where
  At : Nat
  Del : Bool
  Val : (List Int)

structure api_Part where
  Shard : Int
  Writes : (List api_Write)

structure api_Decision where
  ID : api_ID
  E : Int
  Epoch : Int
  Index : Int
  Shards : Int
  Parts : (List api_Part)

structure api_Item where
  To : Int
  N : Int
  Rule : Int
  Epoch : Int
  W : api_Write

structure lane_used where
  rule : Int
  epoch : Int
  n : Int

structure lane_State where
  wide : Int
  epoch : Int
  store : (Option mvcc_Store)
  locks : (Option locks_Table)
  last : (Option session_Table)
  book : (Option policy_Book)
  open_ : (List api_Decision)
  out : (List api_Item)
  used : (List lane_used)

structure api_Command where
  Kind : Int
  ID : api_ID
  Epoch : Int
  Index : Int
  E : Int
  Hold : api_Hold
  Writes : (List api_Write)
  R : api_Reply
  Shards : Int
  Parts : (List api_Part)
  Rule : api_Rule
  On : Bool

structure api_Effect where
  Kind : Int
  ID : api_ID
  R : api_Reply

structure ref11_Version where
  At : Nat
  Epoch : Int
  Index : Int
  Del : Bool
  Val : (List Int)

structure ref11_Answer where
  Session : Int
  Seq : Int
  R : api_Reply

structure ref11_Line where
  R : api_Rule
  From : Int
  To : Int

structure ref16_Used where
  Rule : Int
  Epoch : Int
  N : Int

structure ref16_State where
  Wide : Int
  Epoch : Int
  V : (List ref11_Version)
  H : (List api_Hold)
  A : (List ref11_Answer)
  B : (List ref11_Line)
  Open : (List api_Decision)
  Out : (List api_Item)
  Used : (List ref16_Used)

structure ref12_Tape where
  L : (List Int)
  I : Int

structure octet_Reader where
  p : (List Int)
  bad : Bool

def zero_api_Reply : api_Reply := { E := (0:Int), Epoch := (0:Int), Index := (0:Int), Gots := [], Scans := [] }

def zero_api_Effect : api_Effect := { Kind := (0:Int), ID := ({ Session := (0:Int), Seq := (0:Int) } : api_ID), R := zero_api_Reply }

def zero_api_Hold : api_Hold := { ID := ({ Session := (0:Int), Seq := (0:Int) } : api_ID), Epoch := (0:Int), Gets := [], Scans := [], Puts := [], Data := [] }

def zero_api_Rule : api_Rule := { ID := (0:Int), From := (0:Int), To := (0:Int), Lo := (0:Nat), Hi := (0:Nat), Authority := (0:Int), Quota := (0:Int) }

noncomputable def mvcc_New : Option (mvcc_Store) :=
  (some ({ rows := [] } : mvcc_Store))

noncomputable def locks_New : Option (locks_Table) :=
  (some ({ l := [] } : locks_Table))

noncomputable def session_New : Option (session_Table) :=
  (some ({ l := [] } : session_Table))

noncomputable def policy_New : Option (policy_Book) :=
  (some ({ l := [] } : policy_Book))

noncomputable def lane_New (a0 : Int) : Option (lane_State) :=
  (mvcc_New.bind fun t50 => (locks_New.bind fun t57 => (session_New.bind fun t64 => (policy_New.bind fun t71 => (some ({ wide := a0, epoch := (1:Int), store := (some t50), locks := (some t57), last := (some t64), book := (some t71), open_ := [], out := [], used := [] } : lane_State))))))

noncomputable def locks_Table_Until_l0 (o0 : locks_Table) (a1 : Int) (z296 : (Int)) : Option ((Int) ⊕ (Int)) :=
  (bif (decide (z296 < ((o0.l).length : Int))) then ((geto o0.l z296).bind fun x306 => ((some ()).bind fun _ => (bif (decide (x306.Epoch ≤ a1)) then (inrO (some z296)) else (some (Sum.inl (IntKind.i64.wrap (z296 + (1:Int)))))))) else (inrO (some ((-1):Int))))
noncomputable def locks_Table_Until (a0 : (Option locks_Table)) (a1 : Int) : Option (Bool) :=
  (match a0 with | none => (some false) | some o0 => (((loopO (locks_Table_Until_l0 o0 a1) (0:Int)).bind fun z336 => (some (decide (z336 ≥ (0:Int))))).bind fun z341 => (some z341)))

noncomputable def lane_State_May (a0 : (Option lane_State)) : Option (Bool) :=
  (match a0 with | none => (some false) | some o0 => ((locks_Table_Until o0.locks o0.epoch).bind fun t128 => (some (!t128))))

noncomputable def slices_Clone_mvcc_Version_mvcc_Version (a0 : (List mvcc_Version)) : Option ((List mvcc_Version)) :=
  gd (room ([] : (List mvcc_Version)) a0) (some a0)

noncomputable def mvcc_Store_Trim_l2 (x843 : mvcc_row) (_s : Unit) : Option (Unit ⊕ Unit) :=
  (bif (decide ((0:Int) < ((x843.l).length : Int))) then none else (inrO (some ())))
noncomputable def mvcc_Store_Trim_j3 (z831 : (List mvcc_row)) (x843 : mvcc_row) (z830 : Int) (z909 : ((List mvcc_Version))) : Option ((Int × (List mvcc_row)) ⊕ ((List mvcc_row))) :=
  (bif (decide (((z909).length : Int) > (0:Int))) then (gd (room z831 ([({ rank := x843.rank, l := z909 } : mvcc_row)])) (some (Sum.inl ((IntKind.i64.wrap (z830 + (1:Int))), (z831 ++ ([({ rank := x843.rank, l := z909 } : mvcc_row)])))))) else (some (Sum.inl ((IntKind.i64.wrap (z830 + (1:Int))), z831))))
noncomputable def mvcc_Store_Trim_l1 (o0 : mvcc_Store) (s : (Int × (List mvcc_row))) : Option ((Int × (List mvcc_row)) ⊕ ((List mvcc_row))) :=
  match s with | (z830, z831) => (bif (decide (z830 < ((o0.rows).length : Int))) then ((geto o0.rows z830).bind fun x843 => ((loopO (mvcc_Store_Trim_l2 x843) ()).bind fun _ => (gd (fits x843.l (if (0:Int) > (IntKind.i64.wrap ((0:Int) - (1:Int))) then (0:Int) else (IntKind.i64.wrap ((0:Int) - (1:Int)))) (((x843.l).length : Nat) : Int)) ((slices_Clone_mvcc_Version_mvcc_Version (subs x843.l (if (0:Int) > (IntKind.i64.wrap ((0:Int) - (1:Int))) then (0:Int) else (IntKind.i64.wrap ((0:Int) - (1:Int)))) (((x843.l).length : Nat) : Int))).bind fun t882 => (((bif (decide ((0:Int) > (0:Int))) then ((geto t882 (0:Int)).bind fun x890 => (bif x890.Del then (gd (fits t882 (1:Int) (((t882).length : Nat) : Int)) (some (subs t882 (1:Int) (((t882).length : Nat) : Int)))) else (some t882))) else (some t882))).bind (mvcc_Store_Trim_j3 z831 x843 z830)))))) else (inrO (some z831)))
noncomputable def mvcc_Store_Trim_j0 (z932 : ((List mvcc_row))) : Option ((Option mvcc_Store)) :=
  (some (some ({ rows := z932 } : mvcc_Store)))
noncomputable def mvcc_Store_Trim (a0 : (Option mvcc_Store)) (a1 : Int) : Option ((Option mvcc_Store)) :=
  (match a0 with | none => (some none) | some o0 => (((loopO (mvcc_Store_Trim_l1 o0) ((0:Int), []))).bind (mvcc_Store_Trim_j0)))

noncomputable def lane_State_shut (a0 : (Option lane_State)) (a1 : api_Command) : Option (api_Effect × (Option lane_State)) :=
  (match a0 with | none => none | some o0 => (bif (a1.Epoch != o0.epoch) then (some (zero_api_Effect, (some o0))) else ((lane_State_May (some o0)).bind fun t209 => (bif (!t209) then (some (zero_api_Effect, (some o0))) else (bif (decide ((IntKind.u64.wrap (o0.epoch + (1:Int))) > (9:Int))) then none else (some (({ Kind := (1:Int), ID := ({ Session := (0:Int), Seq := (0:Int) } : api_ID), R := zero_api_Reply } : api_Effect), (some ({ wide := o0.wide, epoch := (IntKind.u64.wrap (o0.epoch + (1:Int))), store := o0.store, locks := o0.locks, last := o0.last, book := o0.book, open_ := o0.open_, out := o0.out, used := o0.used } : lane_State)))))))))

noncomputable def cmp_isNaN_uint64 (a0 : Int) : Option (Bool) :=
  (some (a0 != a0))

noncomputable def cmp_Compare_uint64 (a0 : Int) (a1 : Int) : Option (Int) :=
  ((cmp_isNaN_uint64 a0).bind fun t232 => ((cmp_isNaN_uint64 a1).bind fun t237 => (bif t232 then (bif t237 then (some (0:Int)) else (some ((-1):Int))) else (bif t237 then (some (1:Int)) else (bif (decide (a0 < a1)) then (some ((-1):Int)) else (bif (decide (a0 > a1)) then (some (1:Int)) else (some (0:Int))))))))

noncomputable def cmp_Or_int_l0 (a0 : (List Int)) (z265 : (Int)) : Option ((Int) ⊕ (Int)) :=
  (bif (decide (z265 < ((a0).length : Int))) then ((geto a0 z265).bind fun x275 => (bif (x275 != (0:Int)) then (inrO (some x275)) else (some (Sum.inl (IntKind.i64.wrap (z265 + (1:Int))))))) else (inrO (some (0:Int))))
noncomputable def cmp_Or_int (a0 : (List Int)) : Option (Int) :=
  (loopO (cmp_Or_int_l0 a0) (0:Int))

noncomputable def locks_compare (a0 : api_Hold) (a1 : api_ID) : Option (Int) :=
  ((cmp_Compare_uint64 a0.ID.Session a1.Session).bind fun t253 => ((cmp_Compare_uint64 a0.ID.Seq a1.Seq).bind fun t258 => ((cmp_Or_int ([t253, t258])).bind fun t270 => (some t270))))

noncomputable def locks_Table_find_l1 (o0 : locks_Table) (a1 : api_ID) (s : (Int × Int)) : Option ((Int × Int) ⊕ (Int)) :=
  match s with | (z398, z399) => (bif (decide (z399 < z398)) then ((geto o0.l (IntKind.i64.wrap (iShr .u64 (IntKind.u64.wrap (IntKind.i64.wrap (z399 + z398))) (1:Int)))).bind fun x411 => ((locks_compare x411 a1).bind fun t431 => (bif (decide (t431 < (0:Int))) then (some (Sum.inl (z398, (IntKind.i64.wrap ((IntKind.i64.wrap (iShr .u64 (IntKind.u64.wrap (IntKind.i64.wrap (z399 + z398))) (1:Int))) + (1:Int)))))) else (some (Sum.inl ((IntKind.i64.wrap (iShr .u64 (IntKind.u64.wrap (IntKind.i64.wrap (z399 + z398))) (1:Int))), z399)))))) else (inrO (some z399)))
noncomputable def locks_Table_find_j0 (o0 : locks_Table) (a1 : api_ID) (z437 : (Int)) : Option (Int × Bool) :=
  (bif (decide (z437 < ((o0.l).length : Int))) then ((geto o0.l z437).bind fun x446 => ((locks_compare x446 a1).bind fun t466 => (some (z437, (t466 == (0:Int)))))) else (some (z437, false)))
noncomputable def locks_Table_find (a0 : (Option locks_Table)) (a1 : api_ID) : Option (Int × Bool) :=
  (match a0 with | none => (some ((0:Int), false)) | some o0 => ((((loopO (locks_Table_find_l1 o0 a1) (((o0.l).length : Int), (0:Int)))).bind (locks_Table_find_j0 o0 a1)).bind fun (z471, z472) => (some (z471, z472))))

noncomputable def locks_Table_Get (a0 : (Option locks_Table)) (a1 : api_ID) : Option (api_Hold × Bool) :=
  (match a0 with | none => ((locks_Table_find none a1).bind fun t241 => (bif (!t241.2) then (some (zero_api_Hold, false)) else none)) | some o0 => ((locks_Table_find (some o0) a1).bind fun t271 => (bif (!t271.2) then (some (zero_api_Hold, false)) else ((geto o0.l t271.1).bind fun x290 => (some (x290, true))))))

noncomputable def math_IsNaN (a0 : Nat) : Option (Bool) :=
  (some (fNe a0 a0))

noncomputable def number_Rank (a0 : Nat) : Option (Int) :=
  ((math_IsNaN a0).bind fun t271 => (bif t271 then (some (18446744073709551615:Int)) else (bif ((iShr .u64 (Int.ofNat a0) (63:Int)) == (1:Int)) then (some (bXor .u64 ((18446744073709551615):Int) (Int.ofNat a0))) else (some (bOr .u64 (Int.ofNat a0) (9223372036854775808:Int))))))

noncomputable def number_Same (a0 : Nat) (a1 : Nat) : Option (Bool) :=
  ((number_Rank a0).bind fun t274 => ((number_Rank a1).bind fun t279 => (some (t274 == t279))))

noncomputable def locks_Same_1 (a0 : (Nat × Nat)) (a1 : (Nat × Nat)) : Option (Bool) :=
  ((number_Same a0.1 a1.1).bind fun t377 => (bif t377 then ((number_Same a0.2 a1.2).bind fun t383 => (some t383)) else (some false)))

noncomputable def slices_Equal_byte_byte_l0 (a0 : (List Int)) (a1 : (List Int)) (z575 : (Int)) : Option ((Int) ⊕ (Bool)) :=
  (bif (decide (z575 < ((a0).length : Int))) then ((geto a0 z575).bind fun x585 => ((geto a1 z575).bind fun x590 => (bif (x585 != x590) then (inrO (some false)) else (some (Sum.inl (IntKind.i64.wrap (z575 + (1:Int)))))))) else (inrO (some true)))
noncomputable def slices_Equal_byte_byte (a0 : (List Int)) (a1 : (List Int)) : Option (Bool) :=
  (bif (((a0).length : Int) != ((a1).length : Int)) then (some false) else (loopO (slices_Equal_byte_byte_l0 a0 a1) (0:Int)))

noncomputable def locks_Same_l0 (a0 : api_Hold) (a1 : api_Hold) (z559 : (Int)) : Option ((Int) ⊕ (Bool)) :=
  (bif (decide (z559 < ((a0.Gets).length : Int))) then ((geto a0.Gets z559).bind fun x569 => ((geto a1.Gets z559).bind fun x574 => ((number_Same x569 x574).bind fun t579 => (bif (!t579) then (inrO (some false)) else (some (Sum.inl (IntKind.i64.wrap (z559 + (1:Int))))))))) else (inrO (some true)))
noncomputable def locks_Same_l1 (a0 : api_Hold) (a1 : api_Hold) (z655 : (Int)) : Option ((Int) ⊕ (Bool)) :=
  (bif (decide (z655 < ((a0.Scans).length : Int))) then ((geto a0.Scans z655).bind fun x665 => ((geto a1.Scans z655).bind fun x677 => ((locks_Same_1 x665 x677).bind fun t689 => (bif (!t689) then (inrO (some false)) else (some (Sum.inl (IntKind.i64.wrap (z655 + (1:Int))))))))) else (inrO (some true)))
noncomputable def locks_Same_l2 (a0 : api_Hold) (a1 : api_Hold) (z737 : (Int)) : Option ((Int) ⊕ (Bool)) :=
  (bif (decide (z737 < ((a0.Puts).length : Int))) then ((geto a0.Puts z737).bind fun x747 => ((geto a1.Puts z737).bind fun x752 => ((number_Same x747 x752).bind fun t757 => (bif (!t757) then (inrO (some false)) else (some (Sum.inl (IntKind.i64.wrap (z737 + (1:Int))))))))) else (inrO (some true)))
noncomputable def locks_Same (a0 : api_Hold) (a1 : api_Hold) : Option (Bool) :=
  (bif ((a0.ID.Session == a1.ID.Session) && (a0.ID.Seq == a1.ID.Seq)) then (bif (a0.Epoch == a1.Epoch) then ((bif (((a0.Gets).length : Int) != ((a1.Gets).length : Int)) then (some false) else (loopO (locks_Same_l0 a0 a1) (0:Int))).bind fun z585 => (bif z585 then ((bif (((a0.Scans).length : Int) != ((a1.Scans).length : Int)) then (some false) else (loopO (locks_Same_l1 a0 a1) (0:Int))).bind fun z695 => (bif z695 then ((bif (((a0.Puts).length : Int) != ((a1.Puts).length : Int)) then (some false) else (loopO (locks_Same_l2 a0 a1) (0:Int))).bind fun z763 => (bif z763 then ((slices_Equal_byte_byte a0.Data a1.Data).bind fun t769 => (some t769)) else (some false))) else (some false))) else (some false))) else (some false)) else (some false))

noncomputable def number_Within (a0 : Nat) (a1 : Nat) (a2 : Nat) : Option (Bool) :=
  ((number_Rank a1).bind fun t399 => ((number_Rank a0).bind fun t404 => (bif (decide (t399 ≤ t404)) then ((number_Rank a0).bind fun t410 => ((number_Rank a2).bind fun t415 => (some (decide (t410 ≤ t415))))) else (some false))))

noncomputable def locks_writes_l0 (a0 : api_Hold) (a1 : Nat) (a2 : Nat) (z497 : (Int)) : Option ((Int) ⊕ (Int)) :=
  (bif (decide (z497 < ((a0.Puts).length : Int))) then ((geto a0.Puts z497).bind fun x507 => (((number_Within x507 a1 a2).bind fun t512 => (some t512)).bind fun z517 => (bif z517 then (inrO (some z497)) else (some (Sum.inl (IntKind.i64.wrap (z497 + (1:Int)))))))) else (inrO (some ((-1):Int))))
noncomputable def locks_writes (a0 : api_Hold) (a1 : Nat) (a2 : Nat) : Option (Bool) :=
  (((loopO (locks_writes_l0 a0 a1 a2) (0:Int)).bind fun z523 => (some (decide (z523 ≥ (0:Int))))).bind fun z528 => (some z528))

noncomputable def locks_reads_l0 (a0 : api_Hold) (a1 : Nat) (z580 : (Int)) : Option ((Int) ⊕ (Int)) :=
  (bif (decide (z580 < ((a0.Gets).length : Int))) then ((geto a0.Gets z580).bind fun x590 => (((number_Same a1 x590).bind fun t595 => (some t595)).bind fun z600 => (bif z600 then (inrO (some z580)) else (some (Sum.inl (IntKind.i64.wrap (z580 + (1:Int)))))))) else (inrO (some ((-1):Int))))
noncomputable def locks_reads_l1 (a0 : api_Hold) (a1 : Nat) (z662 : (Int)) : Option ((Int) ⊕ (Int)) :=
  (bif (decide (z662 < ((a0.Scans).length : Int))) then ((geto a0.Scans z662).bind fun x672 => (((number_Within a1 x672.1 x672.2).bind fun t682 => (some t682)).bind fun z687 => (bif z687 then (inrO (some z662)) else (some (Sum.inl (IntKind.i64.wrap (z662 + (1:Int)))))))) else (inrO (some ((-1):Int))))
noncomputable def locks_reads (a0 : api_Hold) (a1 : Nat) : Option (Bool) :=
  (((loopO (locks_reads_l0 a0 a1) (0:Int)).bind fun z606 => (some (decide (z606 ≥ (0:Int))))).bind fun z611 => (bif z611 then (some true) else (((loopO (locks_reads_l1 a0 a1) (0:Int)).bind fun z693 => (some (decide (z693 ≥ (0:Int))))).bind fun z698 => (some z698))))

noncomputable def locks_Meet_l1 (a0 : api_Hold) (a1 : api_Hold) (z517 : (Int)) : Option ((Int) ⊕ (Unit ⊕ (Bool))) :=
  (bif (decide (z517 < ((a0.Puts).length : Int))) then ((geto a0.Puts z517).bind fun x527 => ((locks_writes a1 x527 x527).bind fun t532 => (bif t532 then (inrO (inrO (some true))) else ((locks_reads a1 x527).bind fun t538 => (bif t538 then (inrO (inrO (some true))) else (some (Sum.inl (IntKind.i64.wrap (z517 + (1:Int)))))))))) else (inrO (some (Sum.inl ()))))
noncomputable def locks_Meet_l2 (a1 : api_Hold) (a0 : api_Hold) (z574 : (Int)) : Option ((Int) ⊕ (Bool)) :=
  (bif (decide (z574 < ((a1.Puts).length : Int))) then ((geto a1.Puts z574).bind fun x584 => ((locks_reads a0 x584).bind fun t589 => (bif t589 then (inrO (some true)) else (some (Sum.inl (IntKind.i64.wrap (z574 + (1:Int)))))))) else (inrO (some false)))
noncomputable def locks_Meet_j0 (a1 : api_Hold) (a0 : api_Hold) (_s : Unit) : Option (Bool) :=
  (loopO (locks_Meet_l2 a1 a0) (0:Int))
noncomputable def locks_Meet (a0 : api_Hold) (a1 : api_Hold) : Option (Bool) :=
  (joinO (loopO (locks_Meet_l1 a0 a1) (0:Int)) (locks_Meet_j0 a1 a0))

noncomputable def slices_Clone_float64_float64 (a0 : (List Nat)) : Option ((List Nat)) :=
  gd (room ([] : (List Nat)) a0) (some a0)

noncomputable def slices_Clone_2_float64_2_float64 (a0 : (List (Nat × Nat))) : Option ((List (Nat × Nat))) :=
  gd (room ([] : (List (Nat × Nat))) a0) (some a0)

noncomputable def slices_Clone_byte_byte (a0 : (List Int)) : Option ((List Int)) :=
  gd (room ([] : (List Int)) a0) (some a0)

noncomputable def slices_Insert_api_Hold_api_Hold (a0 : (List api_Hold)) (a1 : Int) (a2 : (List api_Hold)) : Option ((List api_Hold)) :=
  gd (insOK a0 a1 a2) (some (ins a0 a1 a2))

noncomputable def locks_Table_Take_l1 (o0 : locks_Table) (a1 : api_Hold) (z639 : (Int)) : Option ((Int) ⊕ (Unit ⊕ (Int × (Option locks_Table)))) :=
  (bif (decide (z639 < ((o0.l).length : Int))) then ((geto o0.l z639).bind fun x649 => (bif (!((x649.ID.Session == a1.ID.Session) && (x649.ID.Seq == a1.ID.Seq))) then ((locks_Meet x649 a1).bind fun t681 => (bif t681 then (inrO (inrO (some ((8:Int), (some o0))))) else (some (Sum.inl (IntKind.i64.wrap (z639 + (1:Int))))))) else (some (Sum.inl (IntKind.i64.wrap (z639 + (1:Int))))))) else (inrO (some (Sum.inl ()))))
noncomputable def locks_Table_Take_j0 (a1 : api_Hold) (o0 : locks_Table) (_s : Unit) : Option (Int × (Option locks_Table)) :=
  ((slices_Clone_float64_float64 a1.Gets).bind fun t692 => ((slices_Clone_2_float64_2_float64 a1.Scans).bind fun t699 => ((slices_Clone_float64_float64 a1.Puts).bind fun t706 => ((slices_Clone_byte_byte a1.Data).bind fun t713 => ((locks_Table_find (some o0) a1.ID).bind fun t726 => (bif t726.2 then ((geto o0.l t726.1).bind fun x736 => (some ((0:Int), (some ({ l := (o0.l.set t726.1.toNat ({ ID := a1.ID, Epoch := a1.Epoch, Gets := t692, Scans := t699, Puts := t706, Data := t713 } : api_Hold)) } : locks_Table))))) else ((slices_Insert_api_Hold_api_Hold o0.l t726.1 ([({ ID := a1.ID, Epoch := a1.Epoch, Gets := t692, Scans := t699, Puts := t706, Data := t713 } : api_Hold)])).bind fun t797 => (some ((0:Int), (some ({ l := t797 } : locks_Table)))))))))))
noncomputable def locks_Table_Take (a0 : (Option locks_Table)) (a1 : api_Hold) : Option (Int × (Option locks_Table)) :=
  (match a0 with | none => (some ((2:Int), none)) | some o0 => (joinO (loopO (locks_Table_Take_l1 o0 a1) (0:Int)) (locks_Table_Take_j0 a1 o0)))

noncomputable def lane_State_Hold_j1 (o0 : lane_State) (a1 : api_Hold) (_s : Unit) : Option (Int × (Option lane_State)) :=
  ((locks_Table_Take o0.locks a1).bind fun t477 => (some (t477.1, (some ({ wide := o0.wide, epoch := o0.epoch, store := o0.store, locks := t477.2, last := o0.last, book := o0.book, open_ := o0.open_, out := o0.out, used := o0.used } : lane_State)))))
noncomputable def lane_State_Hold_j0 (a1 : api_Hold) (o0 : lane_State) (s : (Int × Int × Int × (List Nat) × (List (Nat × Nat)) × (List Nat) × (List Int) × Bool)) : Option (Int × (Option lane_State)) :=
  match s with | (z387, z388, z389, z392, z396, z400, z404, z406) => (joinO (bif z406 then ((locks_Same ({ ID := ({ Session := z387, Seq := z388 } : api_ID), Epoch := z389, Gets := z392, Scans := z396, Puts := z400, Data := z404 } : api_Hold) a1).bind fun t415 => (bif t415 then (inrO (some ((0:Int), (some o0)))) else (bif (decide (a1.ID.Session < (9223372036854775808:Int))) then (inrO (some ((8:Int), (some o0)))) else (bif (decide (a1.Epoch ≤ z389)) then (inrO (some ((8:Int), (some o0)))) else (some (Sum.inl ())))))) else (bif (a1.Epoch != o0.epoch) then (inrO (some ((9:Int), (some o0)))) else (some (Sum.inl ())))) (lane_State_Hold_j1 o0 a1))
noncomputable def lane_State_Hold (a0 : (Option lane_State)) (a1 : api_Hold) : Option (Int × (Option lane_State)) :=
  (match a0 with | none => (some ((2:Int), none)) | some o0 => ((((locks_Table_Get o0.locks a1.ID).bind fun t329 => (some (t329.1.ID.Session, t329.1.ID.Seq, t329.1.Epoch, t329.1.Gets, t329.1.Scans, t329.1.Puts, t329.1.Data, t329.2)))).bind (lane_State_Hold_j0 a1 o0)))

noncomputable def mvcc_Store_find_l0 (o0 : mvcc_Store) (a1 : Int) (s : (Int × Int)) : Option ((Int × Int) ⊕ (Int)) :=
  match s with | (z335, z336) => (bif (decide (z335 < z336)) then (((geto o0.rows (IntKind.i64.wrap (iShr .u64 (IntKind.u64.wrap (IntKind.i64.wrap (z335 + z336))) (1:Int)))).bind fun x346 => (some (decide (x346.rank ≥ a1)))).bind fun z351 => (bif (!z351) then (some (Sum.inl ((IntKind.i64.wrap ((IntKind.i64.wrap (iShr .u64 (IntKind.u64.wrap (IntKind.i64.wrap (z335 + z336))) (1:Int))) + (1:Int))), z336))) else (some (Sum.inl (z335, (IntKind.i64.wrap (iShr .u64 (IntKind.u64.wrap (IntKind.i64.wrap (z335 + z336))) (1:Int)))))))) else (inrO (some z335)))
noncomputable def mvcc_Store_find (a0 : (Option mvcc_Store)) (a1 : Int) : Option (Int × Bool) :=
  (match a0 with | none => (some ((0:Int), false)) | some o0 => ((loopO (mvcc_Store_find_l0 o0 a1) ((0:Int), ((o0.rows).length : Int))).bind fun z357 => (bif (decide (z357 < ((o0.rows).length : Int))) then ((geto o0.rows z357).bind fun x363 => (some (z357, (x363.rank == a1)))) else (some (z357, false)))))

noncomputable def mvcc_read_l0 (a0 : (List mvcc_Version)) (a1 : Int) (s : (Int × Int)) : Option ((Int × Int) ⊕ (Int)) :=
  match s with | (z418, z419) => (bif (decide (z418 < z419)) then (((geto a0 (IntKind.i64.wrap (iShr .u64 (IntKind.u64.wrap (IntKind.i64.wrap (z418 + z419))) (1:Int)))).bind fun x429 => (some (decide (x429.Epoch > a1)))).bind fun z440 => (bif (!z440) then (some (Sum.inl ((IntKind.i64.wrap ((IntKind.i64.wrap (iShr .u64 (IntKind.u64.wrap (IntKind.i64.wrap (z418 + z419))) (1:Int))) + (1:Int))), z419))) else (some (Sum.inl (z418, (IntKind.i64.wrap (iShr .u64 (IntKind.u64.wrap (IntKind.i64.wrap (z418 + z419))) (1:Int)))))))) else (inrO (some z418)))
noncomputable def mvcc_read (a0 : (List mvcc_Version)) (a1 : Int) : Option (api_Got) :=
  ((loopO (mvcc_read_l0 a0 a1) ((0:Int), ((a0).length : Int))).bind fun z446 => (bif (z446 == (0:Int)) then (some ({ Has := false, Val := [] } : api_Got)) else ((geto a0 (IntKind.i64.wrap (z446 - (1:Int)))).bind fun x455 => (bif x455.Del then (some ({ Has := false, Val := [] } : api_Got)) else ((slices_Clone_byte_byte x455.Val).bind fun t470 => (some ({ Has := true, Val := t470 } : api_Got)))))))

noncomputable def mvcc_Store_Get (a0 : (Option mvcc_Store)) (a1 : Nat) (a2 : Int) : Option (api_Got) :=
  (match a0 with | none => ((number_Rank a1).bind fun t260 => ((mvcc_Store_find none t260).bind fun t266 => (bif (!t266.2) then (some ({ Has := false, Val := [] } : api_Got)) else none))) | some o0 => ((number_Rank a1).bind fun t281 => ((mvcc_Store_find (some o0) t281).bind fun t286 => (bif (!t286.2) then (some ({ Has := false, Val := [] } : api_Got)) else ((geto o0.rows t286.1).bind fun x298 => ((mvcc_read x298.l a2).bind fun t307 => (some t307)))))))

noncomputable def number_Back (a0 : Int) : Option (Nat) :=
  (bif ((iShr .u64 a0 (63:Int)) == (1:Int)) then (some (Int.toNat (bAndNot .u64 a0 (9223372036854775808:Int)))) else (some (Int.toNat (bXor .u64 ((18446744073709551615):Int) a0))))

noncomputable def mvcc_Store_Scan_l0 (o0 : mvcc_Store) (a2 : Nat) (a4 : Int) (a3 : Int) (s : ((List api_Pair) × Int)) : Option (((List api_Pair) × Int) ⊕ ((List api_Pair))) :=
  match s with | (z860, z863) => (bif (decide (z863 < ((o0.rows).length : Int))) then ((geto o0.rows z863).bind fun x878 => ((number_Rank a2).bind fun t883 => (bif (decide (x878.rank ≤ t883)) then (bif (decide (((z860).length : Int) < a4)) then ((mvcc_read x878.l a3).bind fun t894 => (bif t894.Has then ((number_Back x878.rank).bind fun t910 => (gd (room z860 ([({ At := t910, Val := t894.Val } : api_Pair)])) (some (Sum.inl ((z860 ++ ([({ At := t910, Val := t894.Val } : api_Pair)])), (IntKind.i64.wrap (z863 + (1:Int)))))))) else (some (Sum.inl (z860, (IntKind.i64.wrap (z863 + (1:Int)))))))) else (inrO (some z860))) else (inrO (some z860))))) else (inrO (some z860)))
noncomputable def mvcc_Store_Scan (a0 : (Option mvcc_Store)) (a1 : Nat) (a2 : Nat) (a3 : Int) (a4 : Int) : Option ((List api_Pair)) :=
  (match a0 with | none => (some ([])) | some o0 => ((number_Rank a1).bind fun t675 => ((mvcc_Store_find (some o0) t675).bind fun t680 => (loopO (mvcc_Store_Scan_l0 o0 a2 a4 a3) ([], t680.1)))))

noncomputable def lane_State_Told_l1 (a1 : api_Hold) (o0 : lane_State) (s : ((List api_Got) × Int)) : Option (((List api_Got) × Int) ⊕ ((List api_Got))) :=
  match s with | (z817, z820) => (bif (decide (z820 < ((a1.Gets).length : Int))) then ((geto a1.Gets z820).bind fun x831 => ((mvcc_Store_Get o0.store x831 (18446744073709551615:Int)).bind fun t852 => (gd (room z817 ([t852])) (some (Sum.inl ((z817 ++ ([t852])), (IntKind.i64.wrap (z820 + (1:Int))))))))) else (inrO (some z817)))
noncomputable def lane_State_Told_l2 (a1 : api_Hold) (o0 : lane_State) (z877 : (List api_Got)) (s : ((List (List api_Pair)) × Int)) : Option (((List (List api_Pair)) × Int) ⊕ (api_Reply)) :=
  match s with | (z1045, z1048) => (bif (decide (z1048 < ((a1.Scans).length : Int))) then ((geto a1.Scans z1048).bind fun x1059 => ((mvcc_Store_Scan o0.store x1059.1 x1059.2 (18446744073709551615:Int) (64:Int)).bind fun t1087 => (gd (room z1045 ([t1087])) (some (Sum.inl ((z1045 ++ ([t1087])), (IntKind.i64.wrap (z1048 + (1:Int))))))))) else (inrO (some ({ E := (0:Int), Epoch := (0:Int), Index := (0:Int), Gots := z877, Scans := z1045 } : api_Reply))))
noncomputable def lane_State_Told_j0 (a1 : api_Hold) (o0 : lane_State) (z877 : ((List api_Got))) : Option (api_Reply) :=
  (loopO (lane_State_Told_l2 a1 o0 z877) ([], (0:Int)))
noncomputable def lane_State_Told (a0 : (Option lane_State)) (a1 : api_Hold) : Option (api_Reply) :=
  (match a0 with | none => (some zero_api_Reply) | some o0 => (((loopO (lane_State_Told_l1 a1 o0) ([], (0:Int)))).bind (lane_State_Told_j0 a1 o0)))

noncomputable def lane_State_prepare (a0 : (Option lane_State)) (a1 : api_Command) : Option (api_Effect × (Option lane_State)) :=
  ((lane_State_Hold a0 a1.Hold).bind fun t171 => (bif (t171.1 == (0:Int)) then ((lane_State_Told t171.2 a1.Hold).bind fun t179 => (some (({ Kind := (2:Int), ID := a1.Hold.ID, R := t179 } : api_Effect), t171.2))) else (some (({ Kind := (2:Int), ID := a1.Hold.ID, R := ({ E := t171.1, Epoch := (0:Int), Index := (0:Int), Gots := [], Scans := [] } : api_Reply) } : api_Effect), t171.2))))

noncomputable def slices_Delete_api_Hold_api_Hold (a0 : (List api_Hold)) (a1 a2 : Int) : Option ((List api_Hold)) :=
  gd (fits a0 a1 a2) (some (del a0 a1 a2))

noncomputable def locks_Table_Drop (a0 : (Option locks_Table)) (a1 : api_ID) : Option (Bool × (Option locks_Table)) :=
  (match a0 with | none => ((locks_Table_find none a1).bind fun t162 => (bif t162.2 then none else (some (t162.2, none)))) | some o0 => ((locks_Table_find (some o0) a1).bind fun t173 => (bif t173.2 then ((slices_Delete_api_Hold_api_Hold o0.l t173.1 (IntKind.i64.wrap (t173.1 + (1:Int)))).bind fun t182 => (some (t173.2, (some ({ l := t182 } : locks_Table))))) else (some (t173.2, (some o0))))))

noncomputable def slices_Insert_mvcc_row_mvcc_row_raw (a0 : (List (List Value))) (a1 : Int) (a2 : (List (List Value))) : Option ((List (List Value))) :=
  gd (insOK a0 a1 a2) (some (ins a0 a1 a2))

noncomputable def slices_Insert_mvcc_row_mvcc_row (a0 : (List mvcc_row)) (a1 : Int) (a2 : (List mvcc_row)) : Option ((List mvcc_row)) :=
  gd (insOK a0 a1 a2) (some (ins a0 a1 a2))

noncomputable def mvcc_ahead (a0 : mvcc_Version) (a1 : Int) (a2 : Int) : Option (Bool) :=
  (bif (decide (a0.Epoch < a1)) then (some true) else (bif (a0.Epoch == a1) then (some (decide (a0.Index < a2))) else (some false)))

noncomputable def slices_Insert_mvcc_Version_mvcc_Version (a0 : (List mvcc_Version)) (a1 : Int) (a2 : (List mvcc_Version)) : Option ((List mvcc_Version)) :=
  gd (insOK a0 a1 a2) (some (ins a0 a1 a2))

noncomputable def mvcc_Store_Put_l2 (x499 : mvcc_row) (a2 : mvcc_Version) (s : (Int × Int)) : Option ((Int × Int) ⊕ (Int)) :=
  match s with | (z567, z568) => (bif (decide (z567 < z568)) then (((geto x499.l (IntKind.i64.wrap (iShr .u64 (IntKind.u64.wrap (IntKind.i64.wrap (z567 + z568))) (1:Int)))).bind fun x580 => ((mvcc_ahead x580 a2.Epoch a2.Index).bind fun t591 => (some (!t591)))).bind fun z596 => (bif (!z596) then (some (Sum.inl ((IntKind.i64.wrap ((IntKind.i64.wrap (iShr .u64 (IntKind.u64.wrap (IntKind.i64.wrap (z567 + z568))) (1:Int))) + (1:Int))), z568))) else (some (Sum.inl (z567, (IntKind.i64.wrap (iShr .u64 (IntKind.u64.wrap (IntKind.i64.wrap (z567 + z568))) (1:Int)))))))) else (inrO (some z567)))
noncomputable def mvcc_Store_Put_j3 (x499 : mvcc_row) (z602 : Int) (a2 : mvcc_Version) (z447 : (List Int)) (z489 : mvcc_Store) (t458 : (Int × Bool)) (_s : Unit) : Option ((Option mvcc_Store)) :=
  ((slices_Insert_mvcc_Version_mvcc_Version x499.l z602 ([({ Epoch := a2.Epoch, Index := a2.Index, Del := a2.Del, Val := z447 } : mvcc_Version)])).bind fun t652 => (some (some ({ rows := (z489.rows.set t458.1.toNat ({ rank := x499.rank, l := t652 } : mvcc_row)) } : mvcc_Store))))
noncomputable def mvcc_Store_Put_j1 (t458 : (Int × Bool)) (a2 : mvcc_Version) (z447 : (List Int)) (z489 : (mvcc_Store)) : Option ((Option mvcc_Store)) :=
  ((geto z489.rows t458.1).bind fun x499 => ((loopO (mvcc_Store_Put_l2 x499 a2) ((0:Int), ((x499.l).length : Int))).bind fun z602 => (joinO (bif (decide (z602 < ((x499.l).length : Int))) then ((geto x499.l z602).bind fun x610 => (bif (x610.Epoch == a2.Epoch) then (bif (x610.Index == a2.Index) then (inrO (some (some ({ rows := (z489.rows.set t458.1.toNat ({ rank := x499.rank, l := (x499.l.set z602.toNat ({ Epoch := a2.Epoch, Index := a2.Index, Del := a2.Del, Val := z447 } : mvcc_Version)) } : mvcc_row)) } : mvcc_Store)))) else (some (Sum.inl ()))) else (some (Sum.inl ())))) else (some (Sum.inl ()))) (mvcc_Store_Put_j3 x499 z602 a2 z447 z489 t458))))
noncomputable def mvcc_Store_Put_j0 (a1 : Nat) (o0 : mvcc_Store) (a2 : mvcc_Version) (z447 : ((List Int))) : Option ((Option mvcc_Store)) :=
  ((number_Rank a1).bind fun t453 => ((mvcc_Store_find (some o0) t453).bind fun t458 => (((bif (!t458.2) then ((number_Rank a1).bind fun t468 => ((slices_Insert_mvcc_row_mvcc_row o0.rows t458.1 ([({ rank := t468, l := [] } : mvcc_row)])).bind fun t480 => (some ({ rows := t480 } : mvcc_Store)))) else (some o0))).bind (mvcc_Store_Put_j1 t458 a2 z447))))
noncomputable def mvcc_Store_Put (a0 : (Option mvcc_Store)) (a1 : Nat) (a2 : mvcc_Version) : Option ((Option mvcc_Store)) :=
  (match a0 with | none => (some none) | some o0 => ((slices_Clone_byte_byte a2.Val).bind fun t432 => (((bif a2.Del then (some ([])) else (some t432))).bind (mvcc_Store_Put_j0 a1 o0 a2))))

noncomputable def lane_State_finish_l0 (a1 : api_Command) (s : (lane_State × Int)) : Option ((lane_State × Int) ⊕ (api_Effect × (Option lane_State))) :=
  match s with | (z445, z446) => (bif (decide (z446 < ((a1.Writes).length : Int))) then ((geto a1.Writes z446).bind fun x457 => ((mvcc_Store_Put z445.store x457.At ({ Epoch := a1.Epoch, Index := a1.Index, Del := x457.Del, Val := x457.Val } : mvcc_Version)).bind fun t493 => (some (Sum.inl (({ wide := z445.wide, epoch := z445.epoch, store := t493, locks := z445.locks, last := z445.last, book := z445.book, open_ := z445.open_, out := z445.out, used := z445.used } : lane_State), (IntKind.i64.wrap (z446 + (1:Int)))))))) else (inrO (some (({ Kind := (3:Int), ID := a1.ID, R := zero_api_Reply } : api_Effect), (some z445)))))
noncomputable def lane_State_finish (a0 : (Option lane_State)) (a1 : api_Command) : Option (api_Effect × (Option lane_State)) :=
  (match a0 with | none => none | some o0 => ((locks_Table_Drop o0.locks a1.ID).bind fun t352 => (bif t352.1 then (bif (a1.E == (0:Int)) then (loopO (lane_State_finish_l0 a1) (({ wide := o0.wide, epoch := o0.epoch, store := o0.store, locks := t352.2, last := o0.last, book := o0.book, open_ := o0.open_, out := o0.out, used := o0.used } : lane_State), (0:Int))) else (some (({ Kind := (3:Int), ID := a1.ID, R := zero_api_Reply } : api_Effect), (some ({ wide := o0.wide, epoch := o0.epoch, store := o0.store, locks := t352.2, last := o0.last, book := o0.book, open_ := o0.open_, out := o0.out, used := o0.used } : lane_State))))) else (some (({ Kind := (3:Int), ID := a1.ID, R := zero_api_Reply } : api_Effect), (some ({ wide := o0.wide, epoch := o0.epoch, store := o0.store, locks := t352.2, last := o0.last, book := o0.book, open_ := o0.open_, out := o0.out, used := o0.used } : lane_State)))))))

noncomputable def policy_Book_Grant (a0 : (Option policy_Book)) (a1 : api_Rule) (a2 : Int) : Option Unit :=
  (match a0 with | none => (some ()) | some o0 => none)

noncomputable def policy_Book_Revoke_l0 (o0 : policy_Book) (a1 : Int) (a2 : Int) (s : (policy_Book × Int × Bool)) : Option ((policy_Book × Int × Bool) ⊕ (Bool × (Option policy_Book))) :=
  match s with | (z220, z221, z222) => (bif (decide (z221 < ((o0.l).length : Int))) then ((geto z220.l z221).bind fun x236 => (bif (x236.r.ID == a1) then (bif (x236.to_ == (0:Int)) then (some (Sum.inl (({ l := (z220.l.set z221.toNat ({ r := x236.r, from_ := x236.from_, to_ := (if (1:Int) > a2 then (1:Int) else a2) } : policy_line)) } : policy_Book), (IntKind.i64.wrap (z221 + (1:Int))), true))) else (some (Sum.inl (z220, (IntKind.i64.wrap (z221 + (1:Int))), z222)))) else (some (Sum.inl (z220, (IntKind.i64.wrap (z221 + (1:Int))), z222))))) else (inrO (some (z222, (some z220)))))
noncomputable def policy_Book_Revoke (a0 : (Option policy_Book)) (a1 : Int) (a2 : Int) : Option (Bool × (Option policy_Book)) :=
  (match a0 with | none => (some (false, none)) | some o0 => (loopO (policy_Book_Revoke_l0 o0 a1 a2) (o0, (0:Int), false)))

noncomputable def lane_State_Apply (a0 : (Option lane_State)) (a1 : Int) (a2 : api_Command) : Option (api_Effect × (Option lane_State)) :=
  (match a0 with | none => (some (zero_api_Effect, none)) | some o0 => (bif (a2.Kind == (1:Int)) then ((lane_State_shut (some o0) a2).bind fun t173 => (match t173.2 with | none => none | some y182 => (some (t173.1, (some y182))))) else (bif (a2.Kind == (2:Int)) then ((lane_State_prepare (some o0) a2).bind fun t187 => (match t187.2 with | none => none | some y196 => (some (t187.1, (some y196))))) else (bif (a2.Kind == (3:Int)) then ((lane_State_finish (some o0) a2).bind fun t201 => (match t201.2 with | none => none | some y210 => (some (t201.1, (some y210))))) else (bif (a2.Kind == (4:Int)) then none else (bif (a2.Kind == (5:Int)) then none else (bif (a2.Kind == (6:Int)) then (bif a2.On then none else none) else (bif (a2.Kind == (7:Int)) then none else (some (zero_api_Effect, (some o0)))))))))))

noncomputable def lane_State_Epoch (a0 : (Option lane_State)) : Option (Int) :=
  (match a0 with | none => (some (0:Int)) | some o0 => (some o0.epoch))

noncomputable def law16_awake : Option (Bool) :=
  ((lane_New (4:Int)).bind fun t52 => ((lane_State_Apply (some t52) (1:Int) ({ Kind := (1:Int), ID := ({ Session := (0:Int), Seq := (0:Int) } : api_ID), Epoch := (1:Int), Index := (0:Int), E := (0:Int), Hold := zero_api_Hold, Writes := [], R := zero_api_Reply, Shards := (0:Int), Parts := [], Rule := zero_api_Rule, On := false } : api_Command)).bind fun t75 => (match t75.2 with | none => none | some y84 => (bif (t75.1.Kind == (1:Int)) then ((lane_State_Epoch (some y84)).bind fun t96 => (bif (t96 == (2:Int)) then (some true) else (some false))) else (some false)))))

noncomputable def ref16_New (a0 : Int) : Option (ref16_State) :=
  (some ({ Wide := a0, Epoch := (1:Int), V := [], H := [], A := [], B := [], Open := [], Out := [], Used := [] } : ref16_State))

noncomputable def ref12_Tape_Next (a0 : ref12_Tape) (a1 : Int) : Option (Int × ref12_Tape) :=
  (bif (decide (a0.I ≥ ((a0.L).length : Int))) then (some ((0:Int), a0)) else ((geto a0.L (IntKind.i64.wrap ((IntKind.i64.wrap (a0.I + (1:Int))) - (1:Int)))).bind fun x68 => (gd (!(a1 == (0:Int))) (some ((Int.tmod (IntKind.i64.wrap x68) a1), ({ L := a0.L, I := (IntKind.i64.wrap (a0.I + (1:Int))) } : ref12_Tape))))))

noncomputable def ref12_Tape_Of (a0 : ref12_Tape) : Option (api_ID × ref12_Tape) :=
  ((ref12_Tape_Next a0 (4:Int)).bind fun t64 => ((ref12_Tape_Next t64.2 (4:Int)).bind fun t69 => (some (({ Session := (IntKind.u64.wrap t64.1), Seq := (IntKind.u64.wrap (IntKind.i64.wrap ((1:Int) + t69.1))) } : api_ID), t69.2))))

noncomputable def ref12_small (a0 : Int) : Option (Nat) :=
  ((geto ([(0:Nat), (4607182418800017408:Nat), (13830554455654793216:Nat), (4612811918334230528:Nat), (9094988921128908188:Nat), (18318360957983683996:Nat), (4602678819172646912:Nat), (4613937818241073152:Nat)]) (Int.tmod a0 (8:Int))).bind fun x73 => (some x73))

noncomputable def ref12_Tape_Float (a0 : ref12_Tape) : Option (Nat × ref12_Tape) :=
  ((ref12_Tape_Next a0 (8:Int)).bind fun t64 => ((ref12_small (IntKind.u8.wrap t64.1)).bind fun t69 => (some (t69, t64.2))))

noncomputable def ref12_Tape_Val_l0 (t291 : (Int × ref12_Tape)) (s : (ref12_Tape × (List Int) × Int)) : Option ((ref12_Tape × (List Int) × Int) ⊕ ((List Int) × ref12_Tape)) :=
  match s with | (z349, z350, z353) => (bif (decide (z353 < t291.1)) then ((ref12_Tape_Next z349 (26:Int)).bind fun t363 => (gd (room z350 ([(IntKind.u8.wrap (IntKind.i64.wrap ((97:Int) + t363.1)))])) (some (Sum.inl (t363.2, (z350 ++ ([(IntKind.u8.wrap (IntKind.i64.wrap ((97:Int) + t363.1)))])), (IntKind.i64.wrap (z353 + (1:Int)))))))) else (inrO (some (z350, z349))))
noncomputable def ref12_Tape_Val (a0 : ref12_Tape) : Option ((List Int) × ref12_Tape) :=
  ((ref12_Tape_Next a0 (4:Int)).bind fun t291 => (loopO (ref12_Tape_Val_l0 t291) (t291.2, [], (0:Int))))

noncomputable def ref13_OfWrites_j1 (z581 : (List api_Write)) (t595 : (Nat × ref12_Tape)) (t600 : (Int × ref12_Tape)) (z584 : Int) (s : (ref12_Tape × (List Int))) : Option ((ref12_Tape × (List api_Write) × Int) ⊕ ((List api_Write) × ref12_Tape)) :=
  match s with | (z624, z627) => (gd (room z581 ([({ At := t595.1, Del := (t600.1 == (0:Int)), Val := z627 } : api_Write)])) (some (Sum.inl (z624, (z581 ++ ([({ At := t595.1, Del := (t600.1 == (0:Int)), Val := z627 } : api_Write)])), (IntKind.i64.wrap (z584 + (1:Int)))))))
noncomputable def ref13_OfWrites_l0 (t411 : (Int × ref12_Tape)) (s : (ref12_Tape × (List api_Write) × Int)) : Option ((ref12_Tape × (List api_Write) × Int) ⊕ ((List api_Write) × ref12_Tape)) :=
  match s with | (z580, z581, z584) => (bif (decide (z584 < t411.1)) then ((ref12_Tape_Float z580).bind fun t595 => ((ref12_Tape_Next t595.2 (4:Int)).bind fun t600 => (((bif (!(t600.1 == (0:Int))) then ((ref12_Tape_Val t600.2).bind fun t615 => (some (t615.2, t615.1))) else (some (t600.2, [])))).bind (ref13_OfWrites_j1 z581 t595 t600 z584)))) else (inrO (some (z581, z580))))
noncomputable def ref13_OfWrites (a0 : ref12_Tape) : Option ((List api_Write) × ref12_Tape) :=
  ((ref12_Tape_Next a0 (3:Int)).bind fun t411 => (loopO (ref13_OfWrites_l0 t411) (t411.2, [], (0:Int))))

noncomputable def ref16_State_May_l0 (a0 : ref16_State) (z502 : (Int)) : Option ((Int) ⊕ (Bool)) :=
  (bif (decide (z502 < ((a0.H).length : Int))) then ((geto a0.H z502).bind fun x531 => (bif (decide (x531.Epoch ≤ a0.Epoch)) then (inrO (some false)) else (some (Sum.inl (IntKind.i64.wrap (z502 + (1:Int))))))) else (inrO (some true)))
noncomputable def ref16_State_May (a0 : ref16_State) : Option (Bool) :=
  (loopO (ref16_State_May_l0 a0) (0:Int))

noncomputable def ref11_Held_l0 (a0 : (List api_Hold)) (a1 : api_ID) (z497 : (Int)) : Option ((Int) ⊕ (api_Hold × Bool)) :=
  (bif (decide (z497 < ((a0).length : Int))) then ((geto a0 z497).bind fun x507 => (bif ((x507.ID.Session == a1.Session) && (x507.ID.Seq == a1.Seq)) then (inrO (some (x507, true))) else (some (Sum.inl (IntKind.i64.wrap (z497 + (1:Int))))))) else (inrO (some (zero_api_Hold, false))))
noncomputable def ref11_Held (a0 : (List api_Hold)) (a1 : api_ID) : Option (api_Hold × Bool) :=
  (loopO (ref11_Held_l0 a0 a1) (0:Int))

noncomputable def math_Signbit (a0 : Nat) : Option (Bool) :=
  (some (decide ((IntKind.i64.wrap (Int.ofNat a0)) < (0:Int))))

noncomputable def ref01_Ahead_j0 (a0 : Nat) (a1 : Nat) (_s : Unit) : Option (Bool) :=
  (some (fLt a0 a1))
noncomputable def ref01_Ahead (a0 : Nat) (a1 : Nat) : Option (Bool) :=
  (bif (fNe a0 a0) then (some false) else (bif (fNe a1 a1) then (some true) else (joinO (bif (fEq a0 (0:Nat)) then (bif (fEq a1 (0:Nat)) then ((math_Signbit a0).bind fun t482 => (bif t482 then ((math_Signbit a1).bind fun t488 => (inrO (some (!t488)))) else (inrO (some false)))) else (some (Sum.inl ()))) else (some (Sum.inl ()))) (ref01_Ahead_j0 a0 a1))))

noncomputable def ref01_Same (a0 : Nat) (a1 : Nat) : Option (Bool) :=
  ((ref01_Ahead a0 a1).bind fun t469 => (bif (!t469) then ((ref01_Ahead a1 a0).bind fun t475 => (some (!t475))) else (some false)))

noncomputable def ref11_SameHold_l1 (a0 : api_Hold) (a1 : api_Hold) (z727 : (Int)) : Option ((Int) ⊕ (Unit ⊕ (Bool))) :=
  (bif (decide (z727 < ((a0.Gets).length : Int))) then ((geto a0.Gets z727).bind fun x737 => ((geto a1.Gets z727).bind fun x742 => ((ref01_Same x737 x742).bind fun t747 => (bif (!t747) then (inrO (inrO (some false))) else (some (Sum.inl (IntKind.i64.wrap (z727 + (1:Int))))))))) else (inrO (some (Sum.inl ()))))
noncomputable def ref11_SameHold_l3 (a0 : api_Hold) (a1 : api_Hold) (z805 : (Int)) : Option ((Int) ⊕ (Unit ⊕ (Bool))) :=
  (bif (decide (z805 < ((a0.Scans).length : Int))) then ((geto a0.Scans z805).bind fun x815 => ((geto a1.Scans z805).bind fun x820 => ((ref01_Same x815.1 x820.1).bind fun t825 => (bif (!t825) then (inrO (inrO (some false))) else ((ref01_Same x815.2 x820.2).bind fun t831 => (bif (!t831) then (inrO (inrO (some false))) else (some (Sum.inl (IntKind.i64.wrap (z805 + (1:Int))))))))))) else (inrO (some (Sum.inl ()))))
noncomputable def ref11_SameHold_l4 (a0 : api_Hold) (a1 : api_Hold) (z877 : (Int)) : Option ((Int) ⊕ (Bool)) :=
  (bif (decide (z877 < ((a0.Puts).length : Int))) then ((geto a0.Puts z877).bind fun x887 => ((geto a1.Puts z877).bind fun x892 => ((ref01_Same x887 x892).bind fun t897 => (bif (!t897) then (inrO (some false)) else (some (Sum.inl (IntKind.i64.wrap (z877 + (1:Int))))))))) else (inrO (some true)))
noncomputable def ref11_SameHold_j2 (a0 : api_Hold) (a1 : api_Hold) (_s : Unit) : Option (Bool) :=
  (loopO (ref11_SameHold_l4 a0 a1) (0:Int))
noncomputable def ref11_SameHold_j0 (a0 : api_Hold) (a1 : api_Hold) (_s : Unit) : Option (Bool) :=
  (joinO (loopO (ref11_SameHold_l3 a0 a1) (0:Int)) (ref11_SameHold_j2 a0 a1))
noncomputable def ref11_SameHold (a0 : api_Hold) (a1 : api_Hold) : Option (Bool) :=
  (bif (!((a0.ID.Session == a1.ID.Session) && (a0.ID.Seq == a1.ID.Seq))) then (some false) else (bif (a0.Epoch != a1.Epoch) then (some false) else (bif (((a0.Gets).length : Int) != ((a1.Gets).length : Int)) then (some false) else (bif (((a0.Scans).length : Int) != ((a1.Scans).length : Int)) then (some false) else (bif (((a0.Puts).length : Int) != ((a1.Puts).length : Int)) then (some false) else (bif (!(sEq (toStr a0.Data) (toStr a1.Data))) then (some false) else (joinO (loopO (ref11_SameHold_l1 a0 a1) (0:Int)) (ref11_SameHold_j0 a0 a1))))))))

noncomputable def ref11_has_l0 (a0 : (List Nat)) (a1 : Nat) (z583 : (Int)) : Option ((Int) ⊕ (Bool)) :=
  (bif (decide (z583 < ((a0).length : Int))) then ((geto a0 z583).bind fun x593 => ((ref01_Same x593 a1).bind fun t598 => (bif t598 then (inrO (some true)) else (some (Sum.inl (IntKind.i64.wrap (z583 + (1:Int)))))))) else (inrO (some false)))
noncomputable def ref11_has (a0 : (List Nat)) (a1 : Nat) : Option (Bool) :=
  (loopO (ref11_has_l0 a0 a1) (0:Int))

noncomputable def ref01_Within (a0 : Nat) (a1 : Nat) (a2 : Nat) : Option (Bool) :=
  ((ref01_Ahead a0 a1).bind fun t531 => (bif (!t531) then ((ref01_Ahead a2 a0).bind fun t537 => (some (!t537))) else (some false)))

noncomputable def ref11_reads_l1 (a0 : api_Hold) (a1 : Nat) (z609 : (Int)) : Option ((Int) ⊕ (Unit ⊕ (Bool))) :=
  (bif (decide (z609 < ((a0.Scans).length : Int))) then ((geto a0.Scans z609).bind fun x619 => ((ref01_Within a1 x619.1 x619.2).bind fun t624 => (bif t624 then (inrO (inrO (some true))) else (some (Sum.inl (IntKind.i64.wrap (z609 + (1:Int)))))))) else (inrO (some (Sum.inl ()))))
noncomputable def ref11_reads_j0 (a0 : api_Hold) (a1 : Nat) (_s : Unit) : Option (Bool) :=
  ((ref11_has a0.Gets a1).bind fun t635 => (some t635))
noncomputable def ref11_reads (a0 : api_Hold) (a1 : Nat) : Option (Bool) :=
  (joinO (loopO (ref11_reads_l1 a0 a1) (0:Int)) (ref11_reads_j0 a0 a1))

noncomputable def ref11_Meet_l1 (a0 : api_Hold) (a1 : api_Hold) (z679 : (Int)) : Option ((Int) ⊕ (Unit ⊕ (Bool))) :=
  (bif (decide (z679 < ((a0.Puts).length : Int))) then ((geto a0.Puts z679).bind fun x689 => ((ref11_has a1.Puts x689).bind fun t694 => (bif t694 then (inrO (inrO (some true))) else ((ref11_reads a1 x689).bind fun t700 => (bif t700 then (inrO (inrO (some true))) else (some (Sum.inl (IntKind.i64.wrap (z679 + (1:Int)))))))))) else (inrO (some (Sum.inl ()))))
noncomputable def ref11_Meet_l2 (a1 : api_Hold) (a0 : api_Hold) (z736 : (Int)) : Option ((Int) ⊕ (Bool)) :=
  (bif (decide (z736 < ((a1.Puts).length : Int))) then ((geto a1.Puts z736).bind fun x746 => ((ref11_reads a0 x746).bind fun t751 => (bif t751 then (inrO (some true)) else (some (Sum.inl (IntKind.i64.wrap (z736 + (1:Int)))))))) else (inrO (some false)))
noncomputable def ref11_Meet_j0 (a1 : api_Hold) (a0 : api_Hold) (_s : Unit) : Option (Bool) :=
  (loopO (ref11_Meet_l2 a1 a0) (0:Int))
noncomputable def ref11_Meet (a0 : api_Hold) (a1 : api_Hold) : Option (Bool) :=
  (joinO (loopO (ref11_Meet_l1 a0 a1) (0:Int)) (ref11_Meet_j0 a1 a0))

noncomputable def ref11_Drop_l0 (a0 : (List api_Hold)) (a1 : api_ID) (s : ((List api_Hold) × Int)) : Option (((List api_Hold) × Int) ⊕ ((List api_Hold))) :=
  match s with | (z877, z880) => (bif (decide (z880 < ((a0).length : Int))) then ((geto a0 z880).bind fun x890 => (bif (!((x890.ID.Session == a1.Session) && (x890.ID.Seq == a1.Seq))) then (gd (room z877 ([x890])) (some (Sum.inl ((z877 ++ ([x890])), (IntKind.i64.wrap (z880 + (1:Int))))))) else (some (Sum.inl (z877, (IntKind.i64.wrap (z880 + (1:Int)))))))) else (inrO (some z877)))
noncomputable def ref11_Drop (a0 : (List api_Hold)) (a1 : api_ID) : Option ((List api_Hold)) :=
  (loopO (ref11_Drop_l0 a0 a1) ([], (0:Int)))

noncomputable def ref11_Take_l1 (a0 : (List api_Hold)) (a1 : api_Hold) (z705 : (Int)) : Option ((Int) ⊕ (Unit ⊕ ((List api_Hold) × Bool))) :=
  (bif (decide (z705 < ((a0).length : Int))) then ((geto a0 z705).bind fun x715 => (bif (!((x715.ID.Session == a1.ID.Session) && (x715.ID.Seq == a1.ID.Seq))) then ((ref11_Meet x715 a1).bind fun t736 => (bif t736 then (inrO (inrO (some (a0, false)))) else (some (Sum.inl (IntKind.i64.wrap (z705 + (1:Int))))))) else (some (Sum.inl (IntKind.i64.wrap (z705 + (1:Int))))))) else (inrO (some (Sum.inl ()))))
noncomputable def ref11_Take_j2 (z789 : ((List api_Hold))) : Option ((List api_Hold) × Bool) :=
  (some (z789, true))
noncomputable def ref11_Take_j0 (a0 : (List api_Hold)) (a1 : api_Hold) (_s : Unit) : Option ((List api_Hold) × Bool) :=
  ((((ref11_Drop a0 a1.ID).bind fun t747 => (gd (room t747 ([a1])) (some (t747 ++ ([a1])))))).bind (ref11_Take_j2))
noncomputable def ref11_Take (a0 : (List api_Hold)) (a1 : api_Hold) : Option ((List api_Hold) × Bool) :=
  (joinO (loopO (ref11_Take_l1 a0 a1) (0:Int)) (ref11_Take_j0 a0 a1))

noncomputable def ref16_State_Hold_j3 (a0 : ref16_State) (a1 : api_Hold) (_s : Unit) : Option (Int × ref16_State) :=
  ((ref11_Take a0.H a1).bind fun t689 => (bif (!t689.2) then (some ((8:Int), a0)) else (some ((0:Int), ({ Wide := a0.Wide, Epoch := a0.Epoch, V := a0.V, H := t689.1, A := a0.A, B := a0.B, Open := a0.Open, Out := a0.Out, Used := a0.Used } : ref16_State)))))
noncomputable def ref16_State_Hold_j2 (z614 : Bool) (a1 : api_Hold) (a0 : ref16_State) (_s : Unit) : Option (Int × ref16_State) :=
  (joinO (bif (!z614) then (bif (a1.Epoch != a0.Epoch) then (inrO (some ((9:Int), a0))) else (some (Sum.inl ()))) else (some (Sum.inl ()))) (ref16_State_Hold_j3 a0 a1))
noncomputable def ref16_State_Hold_j1 (z614 : Bool) (a1 : api_Hold) (a0 : ref16_State) (z597 : Int) (_s : Unit) : Option (Int × ref16_State) :=
  (joinO (bif z614 then (bif (decide (a1.ID.Session < (9223372036854775808:Int))) then (inrO (some ((8:Int), a0))) else (bif (decide (a1.Epoch ≤ z597)) then (inrO (some ((8:Int), a0))) else (some (Sum.inl ())))) else (some (Sum.inl ()))) (ref16_State_Hold_j2 z614 a1 a0))
noncomputable def ref16_State_Hold_j0 (a1 : api_Hold) (a0 : ref16_State) (s : (Int × Int × Int × (List Nat) × (List (Nat × Nat)) × (List Nat) × (List Int) × Bool)) : Option (Int × ref16_State) :=
  match s with | (z595, z596, z597, z600, z604, z608, z612, z614) => (joinO (bif z614 then ((ref11_SameHold ({ ID := ({ Session := z595, Seq := z596 } : api_ID), Epoch := z597, Gets := z600, Scans := z604, Puts := z608, Data := z612 } : api_Hold) a1).bind fun t623 => (bif t623 then (inrO (some ((0:Int), a0))) else (some (Sum.inl ())))) else (some (Sum.inl ()))) (ref16_State_Hold_j1 z614 a1 a0 z597))
noncomputable def ref16_State_Hold (a0 : ref16_State) (a1 : api_Hold) : Option (Int × ref16_State) :=
  ((((ref11_Held a0.H a1.ID).bind fun t539 => (some (t539.1.ID.Session, t539.1.ID.Seq, t539.1.Epoch, t539.1.Gets, t539.1.Scans, t539.1.Puts, t539.1.Data, t539.2)))).bind (ref16_State_Hold_j0 a1 a0))

noncomputable def ref11_last_l0 (a0 : (List ref11_Version)) (a1 : Nat) (a2 : Int) (s : (Int × Int)) : Option ((Int × Int) ⊕ (Int)) :=
  match s with | (z578, z579) => (bif (decide (z579 < ((a0).length : Int))) then ((geto a0 z579).bind fun x589 => ((ref01_Same x589.At a1).bind fun t600 => (bif t600 then (bif (decide (x589.Epoch ≤ a2)) then (bif (decide (z578 < (0:Int))) then (some (Sum.inl (z579, (IntKind.i64.wrap (z579 + (1:Int)))))) else ((geto a0 z578).bind fun x614 => (bif (decide (x614.Epoch < x589.Epoch)) then (some (Sum.inl (z579, (IntKind.i64.wrap (z579 + (1:Int)))))) else (bif (x614.Epoch == x589.Epoch) then (bif (decide (x614.Index < x589.Index)) then (some (Sum.inl (z579, (IntKind.i64.wrap (z579 + (1:Int)))))) else (some (Sum.inl (z578, (IntKind.i64.wrap (z579 + (1:Int))))))) else (some (Sum.inl (z578, (IntKind.i64.wrap (z579 + (1:Int)))))))))) else (some (Sum.inl (z578, (IntKind.i64.wrap (z579 + (1:Int))))))) else (some (Sum.inl (z578, (IntKind.i64.wrap (z579 + (1:Int))))))))) else (inrO (some z578)))
noncomputable def ref11_last (a0 : (List ref11_Version)) (a1 : Nat) (a2 : Int) : Option (Int) :=
  (loopO (ref11_last_l0 a0 a1 a2) (((-1):Int), (0:Int)))

noncomputable def ref11_Get (a0 : (List ref11_Version)) (a1 : Nat) (a2 : Int) : Option (api_Got) :=
  ((ref11_last a0 a1 a2).bind fun t396 => (bif (decide (t396 < (0:Int))) then (some ({ Has := false, Val := [] } : api_Got)) else ((geto a0 t396).bind fun x406 => (bif x406.Del then (some ({ Has := false, Val := [] } : api_Got)) else (some ({ Has := true, Val := x406.Val } : api_Got))))))

noncomputable def ref11_Ats_l2 (z1710 : (List Nat)) (a0 : (List ref11_Version)) (z1713 : Int) (z1771 : (Int)) : Option ((Int) ⊕ (Int)) :=
  (bif (decide (z1771 < ((z1710).length : Int))) then ((geto z1710 z1771).bind fun x1781 => ((geto a0 z1713).bind fun x1786 => ((ref01_Ahead x1781 x1786.At).bind fun t1797 => (bif t1797 then (some (Sum.inl (IntKind.i64.wrap (z1771 + (1:Int))))) else (inrO (some z1771)))))) else (inrO (some z1771)))
noncomputable def ref11_Ats_j1 (z1710 : (List Nat)) (a0 : (List ref11_Version)) (z1713 : Int) (z1803 : (Int)) : Option (((List Nat) × Int) ⊕ ((List Nat))) :=
  (bif (decide (z1803 < ((z1710).length : Int))) then ((geto z1710 z1803).bind fun x1810 => ((geto a0 z1713).bind fun x1815 => ((ref01_Same x1810 x1815.At).bind fun t1826 => (bif t1826 then (some (Sum.inl (z1710, (IntKind.i64.wrap (z1713 + (1:Int)))))) else (gd (fits z1710 (0:Int) z1803) (gd (room ([] : List Nat) (subs z1710 (0:Int) z1803)) (gd (room (subs z1710 (0:Int) z1803) ([x1815.At])) (gd (fits z1710 z1803 (((z1710).length : Nat) : Int)) (gd (room ((subs z1710 (0:Int) z1803) ++ ([x1815.At])) (subs z1710 z1803 (((z1710).length : Nat) : Int))) (some (Sum.inl ((((subs z1710 (0:Int) z1803) ++ ([x1815.At])) ++ (subs z1710 z1803 (((z1710).length : Nat) : Int))), (IntKind.i64.wrap (z1713 + (1:Int))))))))))))))) else (gd (fits z1710 (0:Int) z1803) (gd (room ([] : List Nat) (subs z1710 (0:Int) z1803)) ((geto a0 z1713).bind fun x1889 => (gd (room (subs z1710 (0:Int) z1803) ([x1889.At])) (gd (fits z1710 z1803 (((z1710).length : Nat) : Int)) (gd (room ((subs z1710 (0:Int) z1803) ++ ([x1889.At])) (subs z1710 z1803 (((z1710).length : Nat) : Int))) (some (Sum.inl ((((subs z1710 (0:Int) z1803) ++ ([x1889.At])) ++ (subs z1710 z1803 (((z1710).length : Nat) : Int))), (IntKind.i64.wrap (z1713 + (1:Int)))))))))))))
noncomputable def ref11_Ats_l0 (a0 : (List ref11_Version)) (s : ((List Nat) × Int)) : Option (((List Nat) × Int) ⊕ ((List Nat))) :=
  match s with | (z1710, z1713) => (bif (decide (z1713 < ((a0).length : Int))) then (((loopO (ref11_Ats_l2 z1710 a0 z1713) (0:Int))).bind (ref11_Ats_j1 z1710 a0 z1713)) else (inrO (some z1710)))
noncomputable def ref11_Ats (a0 : (List ref11_Version)) : Option ((List Nat)) :=
  (loopO (ref11_Ats_l0 a0) ([], (0:Int)))

noncomputable def ref11_Scan_l0 (t764 : ((List Nat))) (a4 : Int) (a0 : (List ref11_Version)) (a3 : Int) (a1 : Nat) (a2 : Nat) (s : ((List api_Pair) × Int)) : Option (((List api_Pair) × Int) ⊕ ((List api_Pair))) :=
  match s with | (z901, z904) => (bif (decide (z904 < ((t764).length : Int))) then (bif (decide (((z901).length : Int) < a4)) then ((geto t764 z904).bind fun x916 => ((ref11_Get a0 x916 a3).bind fun t921 => (bif t921.Has then ((ref01_Within x916 a1 a2).bind fun t938 => (bif t938 then (gd (room z901 ([({ At := x916, Val := t921.Val } : api_Pair)])) (some (Sum.inl ((z901 ++ ([({ At := x916, Val := t921.Val } : api_Pair)])), (IntKind.i64.wrap (z904 + (1:Int))))))) else (some (Sum.inl (z901, (IntKind.i64.wrap (z904 + (1:Int)))))))) else (some (Sum.inl (z901, (IntKind.i64.wrap (z904 + (1:Int))))))))) else (inrO (some z901))) else (inrO (some z901)))
noncomputable def ref11_Scan (a0 : (List ref11_Version)) (a1 : Nat) (a2 : Nat) (a3 : Int) (a4 : Int) : Option ((List api_Pair)) :=
  ((ref11_Ats a0).bind fun t764 => (loopO (ref11_Scan_l0 t764 a4 a0 a3 a1 a2) ([], (0:Int))))

noncomputable def ref16_State_Told_l1 (a1 : api_Hold) (a0 : ref16_State) (s : ((List api_Got) × Int)) : Option (((List api_Got) × Int) ⊕ ((List api_Got))) :=
  match s with | (z946, z949) => (bif (decide (z949 < ((a1.Gets).length : Int))) then ((geto a1.Gets z949).bind fun x979 => ((ref11_Get a0.V x979 (18446744073709551615:Int)).bind fun t984 => (gd (room z946 ([t984])) (some (Sum.inl ((z946 ++ ([t984])), (IntKind.i64.wrap (z949 + (1:Int))))))))) else (inrO (some z946)))
noncomputable def ref16_State_Told_l2 (a1 : api_Hold) (a0 : ref16_State) (z1007 : (List api_Got)) (s : ((List (List api_Pair)) × Int)) : Option (((List (List api_Pair)) × Int) ⊕ (api_Reply)) :=
  match s with | (z1163, z1166) => (bif (decide (z1166 < ((a1.Scans).length : Int))) then ((geto a1.Scans z1166).bind fun x1196 => ((ref11_Scan a0.V x1196.1 x1196.2 (18446744073709551615:Int) (64:Int)).bind fun t1201 => (gd (room z1163 ([t1201])) (some (Sum.inl ((z1163 ++ ([t1201])), (IntKind.i64.wrap (z1166 + (1:Int))))))))) else (inrO (some ({ E := (0:Int), Epoch := (0:Int), Index := (0:Int), Gots := z1007, Scans := z1163 } : api_Reply))))
noncomputable def ref16_State_Told_j0 (a1 : api_Hold) (a0 : ref16_State) (z1007 : ((List api_Got))) : Option (api_Reply) :=
  (loopO (ref16_State_Told_l2 a1 a0 z1007) ([], (0:Int)))
noncomputable def ref16_State_Told (a0 : ref16_State) (a1 : api_Hold) : Option (api_Reply) :=
  (((loopO (ref16_State_Told_l1 a1 a0) ([], (0:Int)))).bind (ref16_State_Told_j0 a1 a0))

noncomputable def ref11_Put_l1 (a0 : (List ref11_Version)) (a1 : ref11_Version) (s : ((List ref11_Version) × Int)) : Option (((List ref11_Version) × Int) ⊕ ((List ref11_Version))) :=
  match s with | (z1014, z1017) => (bif (decide (z1017 < ((a0).length : Int))) then ((geto a0 z1017).bind fun x1027 => ((ref01_Same x1027.At a1.At).bind fun t1038 => (bif (!t1038) then (gd (room z1014 ([x1027])) (some (Sum.inl ((z1014 ++ ([x1027])), (IntKind.i64.wrap (z1017 + (1:Int))))))) else (bif (x1027.Epoch != a1.Epoch) then (gd (room z1014 ([x1027])) (some (Sum.inl ((z1014 ++ ([x1027])), (IntKind.i64.wrap (z1017 + (1:Int))))))) else (bif (x1027.Index != a1.Index) then (gd (room z1014 ([x1027])) (some (Sum.inl ((z1014 ++ ([x1027])), (IntKind.i64.wrap (z1017 + (1:Int))))))) else (some (Sum.inl (z1014, (IntKind.i64.wrap (z1017 + (1:Int))))))))))) else (inrO (some z1014)))
noncomputable def ref11_Put_j2 (z1093 : (List ref11_Version)) (a1 : ref11_Version) (z1105 : ((List Int))) : Option ((List ref11_Version)) :=
  (gd (room z1093 ([({ At := a1.At, Epoch := a1.Epoch, Index := a1.Index, Del := a1.Del, Val := z1105 } : ref11_Version)])) (some (z1093 ++ ([({ At := a1.At, Epoch := a1.Epoch, Index := a1.Index, Del := a1.Del, Val := z1105 } : ref11_Version)]))))
noncomputable def ref11_Put_j0 (a1 : ref11_Version) (z1093 : ((List ref11_Version))) : Option ((List ref11_Version)) :=
  (((bif a1.Del then (some ([])) else (some a1.Val))).bind (ref11_Put_j2 z1093 a1))
noncomputable def ref11_Put (a0 : (List ref11_Version)) (a1 : ref11_Version) : Option ((List ref11_Version)) :=
  (((loopO (ref11_Put_l1 a0 a1) ([], (0:Int)))).bind (ref11_Put_j0 a1))

noncomputable def ref11_Revoke_j3 (z951 : (List ref11_Line)) (x964 : ref11_Line) (z950 : Int) (s : (Bool × Int)) : Option ((Int × (List ref11_Line) × Bool) ⊕ ((List ref11_Line) × Bool)) :=
  match s with | (z980, z981) => (gd (room z951 ([({ R := x964.R, From := x964.From, To := z981 } : ref11_Line)])) (some (Sum.inl ((IntKind.i64.wrap (z950 + (1:Int))), (z951 ++ ([({ R := x964.R, From := x964.From, To := z981 } : ref11_Line)])), z980))))
noncomputable def ref11_Revoke_l2 (a0 : (List ref11_Line)) (a1 : Int) (z837 : Int) (s : (Int × (List ref11_Line) × Bool)) : Option ((Int × (List ref11_Line) × Bool) ⊕ ((List ref11_Line) × Bool)) :=
  match s with | (z950, z951, z954) => (bif (decide (z950 < ((a0).length : Int))) then ((geto a0 z950).bind fun x964 => (((bif (x964.R.ID == a1) then (bif (x964.To == (0:Int)) then (some (true, z837)) else (some (z954, x964.To))) else (some (z954, x964.To)))).bind (ref11_Revoke_j3 z951 x964 z950))) else (inrO (some (z951, z954))))
noncomputable def ref11_Revoke_j1 (s : ((List ref11_Line) × Bool)) : Option ((List ref11_Line) × Bool) :=
  match s with | (z999, z1000) => (some (z999, z1000))
noncomputable def ref11_Revoke_j0 (a0 : (List ref11_Line)) (a1 : Int) (z837 : (Int)) : Option ((List ref11_Line) × Bool) :=
  (((loopO (ref11_Revoke_l2 a0 a1 z837) ((0:Int), [], false))).bind (ref11_Revoke_j1))
noncomputable def ref11_Revoke (a0 : (List ref11_Line)) (a1 : Int) (a2 : Int) : Option ((List ref11_Line) × Bool) :=
  (((bif (a2 == (0:Int)) then (some (1:Int)) else (some a2))).bind (ref11_Revoke_j0 a0 a1))

noncomputable def ref16_State_Apply_j0 (t742 : (Int × ref16_State)) (z759 : (api_Effect)) : Option (api_Effect × ref16_State) :=
  (some (({ Kind := z759.Kind, ID := z759.ID, R := ({ E := t742.1, Epoch := z759.R.Epoch, Index := z759.R.Index, Gots := z759.R.Gots, Scans := z759.R.Scans } : api_Reply) } : api_Effect), t742.2))
noncomputable def ref16_State_Apply_l3 (z849 : Bool) (a2 : api_Command) (s : (ref16_State × Int)) : Option ((ref16_State × Int) ⊕ (ref16_State)) :=
  match s with | (z1001, z1002) => (bif z849 then (bif (a2.E == (0:Int)) then (bif (decide (z1002 < ((a2.Writes).length : Int))) then ((geto a2.Writes z1002).bind fun x1015 => ((ref11_Put z1001.V ({ At := x1015.At, Epoch := a2.Epoch, Index := a2.Index, Del := x1015.Del, Val := x1015.Val } : ref11_Version)).bind fun t1055 => (some (Sum.inl (({ Wide := z1001.Wide, Epoch := z1001.Epoch, V := t1055, H := z1001.H, A := z1001.A, B := z1001.B, Open := z1001.Open, Out := z1001.Out, Used := z1001.Used } : ref16_State), (IntKind.i64.wrap (z1002 + (1:Int)))))))) else (inrO (some z1001))) else (inrO (some z1001))) else (inrO (some z1001)))
noncomputable def ref16_State_Apply_j2 (a2 : api_Command) (z1067 : (ref16_State)) : Option (api_Effect × ref16_State) :=
  (some (({ Kind := (3:Int), ID := a2.ID, R := zero_api_Reply } : api_Effect), z1067))
noncomputable def ref16_State_Apply_j1 (a0 : ref16_State) (a2 : api_Command) (z849 : (Bool)) : Option (api_Effect × ref16_State) :=
  ((ref11_Drop a0.H a2.ID).bind fun t877 => (((loopO (ref16_State_Apply_l3 z849 a2) (({ Wide := a0.Wide, Epoch := a0.Epoch, V := a0.V, H := t877, A := a0.A, B := a0.B, Open := a0.Open, Out := a0.Out, Used := a0.Used } : ref16_State), (0:Int)))).bind (ref16_State_Apply_j2 a2)))
noncomputable def ref16_State_Apply (a0 : ref16_State) (a1 : Int) (a2 : api_Command) : Option (api_Effect × ref16_State) :=
  (bif (a2.Kind == (1:Int)) then (bif (a2.Epoch != a0.Epoch) then (some (zero_api_Effect, a0)) else none) else (bif (a2.Kind == (2:Int)) then ((ref16_State_Hold a0 a2.Hold).bind fun t742 => (((bif (t742.1 == (0:Int)) then ((ref16_State_Told t742.2 a2.Hold).bind fun t748 => (some ({ Kind := (2:Int), ID := a2.Hold.ID, R := t748 } : api_Effect))) else (some ({ Kind := (2:Int), ID := a2.Hold.ID, R := zero_api_Reply } : api_Effect)))).bind (ref16_State_Apply_j0 t742))) else (bif (a2.Kind == (3:Int)) then ((((ref11_Held a0.H a2.ID).bind fun t795 => (some t795.2))).bind (ref16_State_Apply_j1 a0 a2)) else (bif (a2.Kind == (4:Int)) then none else (bif (a2.Kind == (5:Int)) then none else (bif (a2.Kind == (6:Int)) then none else (bif (a2.Kind == (7:Int)) then none else (some (zero_api_Effect, a0)))))))))

noncomputable def lane_State_then (a0 : (Option lane_State)) (a1 : Int) : Option (Int) :=
  (match a0 with | none => (some (2:Int)) | some o0 => (bif (decide (a1 ≥ o0.epoch)) then (some (2:Int)) else (bif (decide ((IntKind.u64.wrap ((IntKind.u64.wrap (a1 + (1:Int))) + (8:Int))) < o0.epoch)) then (some (9:Int)) else (some (0:Int)))))

noncomputable def lane_State_Scan (a0 : (Option lane_State)) (a1 : Nat) (a2 : Nat) (a3 : Int) : Option ((List api_Pair) × Int) :=
  (match a0 with | none => ((lane_State_then none a3).bind fun t934 => (bif (t934 != (0:Int)) then (some ([], t934)) else none)) | some o0 => ((lane_State_then (some o0) a3).bind fun t942 => (bif (t942 != (0:Int)) then (some ([], t942)) else ((mvcc_Store_Scan o0.store a1 a2 a3 (64:Int)).bind fun t964 => (some (t964, (0:Int)))))))

noncomputable def ref11_SameGots_l0 (a0 : (List api_Got)) (a1 : (List api_Got)) (z1064 : (Int)) : Option ((Int) ⊕ (Bool)) :=
  (bif (decide (z1064 < ((a0).length : Int))) then ((geto a0 z1064).bind fun x1074 => ((geto a1 z1064).bind fun x1085 => (bif (!(x1074.Has == x1085.Has)) then (inrO (some false)) else (bif (!(sEq (toStr x1074.Val) (toStr x1085.Val))) then (inrO (some false)) else (some (Sum.inl (IntKind.i64.wrap (z1064 + (1:Int))))))))) else (inrO (some true)))
noncomputable def ref11_SameGots (a0 : (List api_Got)) (a1 : (List api_Got)) : Option (Bool) :=
  (bif (((a0).length : Int) != ((a1).length : Int)) then (some false) else (loopO (ref11_SameGots_l0 a0 a1) (0:Int)))

noncomputable def ref11_SamePairs_l0 (a0 : (List api_Pair)) (a1 : (List api_Pair)) (z1157 : (Int)) : Option ((Int) ⊕ (Bool)) :=
  (bif (decide (z1157 < ((a0).length : Int))) then ((geto a0 z1157).bind fun x1167 => ((geto a1 z1157).bind fun x1178 => ((ref01_Same x1167.At x1178.At).bind fun t1189 => (bif (!t1189) then (inrO (some false)) else (bif (!(sEq (toStr x1167.Val) (toStr x1178.Val))) then (inrO (some false)) else (some (Sum.inl (IntKind.i64.wrap (z1157 + (1:Int)))))))))) else (inrO (some true)))
noncomputable def ref11_SamePairs (a0 : (List api_Pair)) (a1 : (List api_Pair)) : Option (Bool) :=
  (bif (((a0).length : Int) != ((a1).length : Int)) then (some false) else (loopO (ref11_SamePairs_l0 a0 a1) (0:Int)))

noncomputable def ref11_SameReply_l0 (a0 : api_Reply) (a1 : api_Reply) (z1109 : (Int)) : Option ((Int) ⊕ (Bool)) :=
  (bif (decide (z1109 < ((a0.Scans).length : Int))) then ((geto a0.Scans z1109).bind fun x1119 => ((geto a1.Scans z1109).bind fun x1130 => ((ref11_SamePairs x1119 x1130).bind fun t1141 => (bif (!t1141) then (inrO (some false)) else (some (Sum.inl (IntKind.i64.wrap (z1109 + (1:Int))))))))) else (inrO (some true)))
noncomputable def ref11_SameReply (a0 : api_Reply) (a1 : api_Reply) : Option (Bool) :=
  (bif (a0.E != a1.E) then (some false) else (bif (a0.Epoch != a1.Epoch) then (some false) else (bif (a0.Index != a1.Index) then (some false) else ((ref11_SameGots a0.Gots a1.Gots).bind fun t1043 => (bif (!t1043) then (some false) else (bif (((a0.Scans).length : Int) != ((a1.Scans).length : Int)) then (some false) else (loopO (ref11_SameReply_l0 a0 a1) (0:Int))))))))

noncomputable def law16_LaneReads_j3 (z1526 : lane_State) (t1539 : (api_ID × ref12_Tape)) (z1662 : (List Nat)) (z1527 : ref16_State) (z1528 : Int) (s : (ref12_Tape × (List api_Write))) : Option ((ref12_Tape × lane_State × ref16_State × Int) ⊕ (lane_State × ref16_State)) :=
  match s with | (z1728, z1733) => ((lane_State_Apply (some z1526) (1:Int) ({ Kind := (2:Int), ID := ({ Session := (0:Int), Seq := (0:Int) } : api_ID), Epoch := (0:Int), Index := (0:Int), E := (0:Int), Hold := ({ ID := t1539.1, Epoch := (1:Int), Gets := [], Scans := [], Puts := z1662, Data := [] } : api_Hold), Writes := [], R := zero_api_Reply, Shards := (0:Int), Parts := [], Rule := zero_api_Rule, On := false } : api_Command)).bind fun t1750 => (match t1750.2 with | none => none | some y1759 => ((ref16_State_Apply z1527 (1:Int) ({ Kind := (2:Int), ID := ({ Session := (0:Int), Seq := (0:Int) } : api_ID), Epoch := (0:Int), Index := (0:Int), E := (0:Int), Hold := ({ ID := t1539.1, Epoch := (1:Int), Gets := [], Scans := [], Puts := z1662, Data := [] } : api_Hold), Writes := [], R := zero_api_Reply, Shards := (0:Int), Parts := [], Rule := zero_api_Rule, On := false } : api_Command)).bind fun t1764 => ((lane_State_Apply (some y1759) (2:Int) ({ Kind := (3:Int), ID := t1539.1, Epoch := (1:Int), Index := (IntKind.u64.wrap (IntKind.i64.wrap (z1528 + (1:Int)))), E := (0:Int), Hold := zero_api_Hold, Writes := z1733, R := zero_api_Reply, Shards := (0:Int), Parts := [], Rule := zero_api_Rule, On := false } : api_Command)).bind fun t1782 => (match t1782.2 with | none => none | some y1791 => ((ref16_State_Apply t1764.2 (2:Int) ({ Kind := (3:Int), ID := t1539.1, Epoch := (1:Int), Index := (IntKind.u64.wrap (IntKind.i64.wrap (z1528 + (1:Int)))), E := (0:Int), Hold := zero_api_Hold, Writes := z1733, R := zero_api_Reply, Shards := (0:Int), Parts := [], Rule := zero_api_Rule, On := false } : api_Command)).bind fun t1796 => (some (Sum.inl (z1728, y1791, t1796.2, (IntKind.i64.wrap (z1528 + (1:Int))))))))))))
noncomputable def law16_LaneReads_j2 (z1526 : lane_State) (t1539 : (api_ID × ref12_Tape)) (z1527 : ref16_State) (z1528 : Int) (s : (ref12_Tape × (List Nat))) : Option ((ref12_Tape × lane_State × ref16_State × Int) ⊕ (lane_State × ref16_State)) :=
  match s with | (z1657, z1662) => ((((ref13_OfWrites z1657).bind fun t1668 => (some (t1668.2, t1668.1)))).bind (law16_LaneReads_j3 z1526 t1539 z1662 z1527 z1528))
noncomputable def law16_LaneReads_l1 (s : (ref12_Tape × lane_State × ref16_State × Int)) : Option ((ref12_Tape × lane_State × ref16_State × Int) ⊕ (lane_State × ref16_State)) :=
  match s with | (z1525, z1526, z1527, z1528) => (bif (decide (z1528 < (10:Int))) then ((ref12_Tape_Of z1525).bind fun t1539 => ((((ref12_Tape_Float t1539.2).bind fun t1551 => (some (t1551.2, [t1551.1])))).bind (law16_LaneReads_j2 z1526 t1539 z1527 z1528))) else (inrO (some (z1526, z1527))))
noncomputable def law16_LaneReads_j0 (a1 : Nat) (a2 : Nat) (s : (lane_State × ref16_State)) : Option (Bool) :=
  match s with | (z1805, z1806) => ((lane_State_Scan (some z1805) a1 a2 (0:Int)).bind fun t1839 => ((lane_State_Scan (some z1805) a1 a2 (1:Int)).bind fun t1846 => ((lane_State_Told (some z1805) ({ ID := ({ Session := (0:Int), Seq := (0:Int) } : api_ID), Epoch := (0:Int), Gets := [(0:Nat), (4607182418800017408:Nat), (4612811918334230528:Nat), a1], Scans := [(a1, a2), ((13830554455654793216:Nat), (4607182418800017408:Nat))], Puts := [], Data := [] } : api_Hold)).bind fun t1859 => ((ref16_State_Told z1806 ({ ID := ({ Session := (0:Int), Seq := (0:Int) } : api_ID), Epoch := (0:Int), Gets := [(0:Nat), (4607182418800017408:Nat), (4612811918334230528:Nat), a1], Scans := [(a1, a2), ((13830554455654793216:Nat), (4607182418800017408:Nat))], Puts := [], Data := [] } : api_Hold)).bind fun t1872 => ((ref11_SameReply t1859 t1872).bind fun t1889 => (bif t1889 then (bif (t1839.2 == (0:Int)) then (bif (((t1839.1).length : Int) == (0:Int)) then (some (t1846.2 == (2:Int))) else (some false)) else (some false)) else (some false)))))))
noncomputable def law16_LaneReads (a0 : (List Int)) (a1 : Nat) (a2 : Nat) : Option (Bool) :=
  (law16_awake.bind fun t950 => (bif (!t950) then (law16_awake.bind fun t956 => (some t956)) else (bif (decide (((a0).length : Int) > (300:Int))) then (law16_awake.bind fun t962 => (some t962)) else ((lane_New (0:Int)).bind fun t973 => ((ref16_New (0:Int)).bind fun t980 => (((loopO (law16_LaneReads_l1) (({ L := a0, I := (0:Int) } : ref12_Tape), t973, t980, (0:Int)))).bind (law16_LaneReads_j0 a1 a2)))))))

noncomputable def octet_Read (a0 : (List Int)) : Option (octet_Reader) :=
  (some ({ p := a0, bad := false } : octet_Reader))
end Go.Proofs.YtgnkkopjkgdieaaGreat
