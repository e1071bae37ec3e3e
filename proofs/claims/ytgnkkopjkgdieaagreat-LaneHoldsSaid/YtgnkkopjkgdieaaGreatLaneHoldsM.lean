/- The models of the Go functions: plain Lean, no memory. -/
import Derived.Test.YtgnkkopjkgdieaaGreatLaneHoldsGv
set_option linter.unusedVariables false
set_option linter.unusedSimpArgs false
set_option maxRecDepth 100000
set_option maxHeartbeats 4000000
namespace Go.Proofs.YtgnkkopjkgdieaaGreat
open Go Go.V
structure mvcc_Version where
  Epoch : Int
  Index : Int
  Del : Bool
  Val : (List Int)

structure mvcc_row where
  rank : Int
  l : (List mvcc_Version)

structure mvcc_Store where
  rows : (List mvcc_row)

structure api_ID where
  Session : Int
  Seq : Int

structure api_Hold where
  ID : api_ID
  Epoch : Int
  Gets : (List Nat)
  Scans : (List (Nat × Nat))
  Puts : (List Nat)
  Data : (List Int)

structure locks_Table where
  l : (List api_Hold)

structure api_Got where
  Has : Bool
  Val : (List Int)

structure api_Pair where
  At : Nat
  Val : (List Int)

structure api_Reply where
  E : Int
  Epoch : Int
  Index : Int
  Gots : (List api_Got)
  Scans : (List (List api_Pair))

structure session_row where
  session : Int
  seq : Int
  r : api_Reply

structure session_Table where
  l : (List session_row)

structure api_Rule where
  ID : Int
  From : Int
  To : Int
  Lo : Nat
  Hi : Nat
  Authority : Int
  Quota : Int

structure policy_line where
  r : api_Rule
  from_ : Int
  to_ : Int

structure policy_Book where
  l : (List policy_line)

structure api_Write where
  At : Nat
  Del : Bool
  Val : (List Int)

structure api_Part where
  Shard : Int
  Writes : (List api_Write)

structure api_Decision where
  ID : api_ID
  E : Int
  Epoch : Int
  Index : Int
  Shards : Int
  Parts : (List api_Part)

structure api_Item where
  To : Int
  N : Int
  Rule : Int
  Epoch : Int
  W : api_Write

structure lane_used where
  rule : Int
  epoch : Int
  n : Int

structure lane_State where
  wide : Int
  epoch : Int
  store : (Option mvcc_Store)
  locks : (Option locks_Table)
  last : (Option session_Table)
  book : (Option policy_Book)
  open_ : (List api_Decision)
  out : (List api_Item)
  used : (List lane_used)

structure api_Command where
  Kind : Int
  ID : api_ID
  Epoch : Int
  Index : Int
  E : Int
  Hold : api_Hold
  Writes : (List api_Write)
  R : api_Reply
  Shards : Int
  Parts : (List api_Part)
  Rule : api_Rule
  On : Bool

structure api_Effect where
  Kind : Int
  ID : api_ID
  R : api_Reply

structure octet_Reader where
  p : (List Int)
  bad : Bool

structure ref12_Tape where
  L : (List Int)
  I : Int

def zero_api_Hold : api_Hold := { ID := ({ Session := (0:Int), Seq := (0:Int) } : api_ID), Epoch := (0:Int), Gets := [], Scans := [], Puts := [], Data := [] }

def zero_api_Reply : api_Reply := { E := (0:Int), Epoch := (0:Int), Index := (0:Int), Gots := [], Scans := [] }

def zero_api_Effect : api_Effect := { Kind := (0:Int), ID := ({ Session := (0:Int), Seq := (0:Int) } : api_ID), R := zero_api_Reply }

def zero_api_Rule : api_Rule := { ID := (0:Int), From := (0:Int), To := (0:Int), Lo := (0:Nat), Hi := (0:Nat), Authority := (0:Int), Quota := (0:Int) }

noncomputable def mvcc_New : Option (mvcc_Store) :=
  (some ({ rows := [] } : mvcc_Store))

noncomputable def locks_New : Option (locks_Table) :=
  (some ({ l := [] } : locks_Table))

noncomputable def session_New : Option (session_Table) :=
  (some ({ l := [] } : session_Table))

noncomputable def policy_New : Option (policy_Book) :=
  (some ({ l := [] } : policy_Book))

noncomputable def lane_New (a0 : Int) : Option (lane_State) :=
  (mvcc_New.bind fun t49 => (locks_New.bind fun t56 => (session_New.bind fun t63 => (policy_New.bind fun t70 => (some ({ wide := a0, epoch := (1:Int), store := (some t49), locks := (some t56), last := (some t63), book := (some t70), open_ := [], out := [], used := [] } : lane_State))))))

noncomputable def cmp_isNaN_uint64 (a0 : Int) : Option (Bool) :=
  (some (a0 != a0))

noncomputable def cmp_Compare_uint64 (a0 : Int) (a1 : Int) : Option (Int) :=
  ((cmp_isNaN_uint64 a0).bind fun t164 => ((cmp_isNaN_uint64 a1).bind fun t169 => (bif t164 then (bif t169 then (some (0:Int)) else (some ((-1):Int))) else (bif t169 then (some (1:Int)) else (bif (decide (a0 < a1)) then (some ((-1):Int)) else (bif (decide (a0 > a1)) then (some (1:Int)) else (some (0:Int))))))))

noncomputable def cmp_Or_int_l0 (a0 : (List Int)) (z197 : (Int)) : Option ((Int) ⊕ (Int)) :=
  (bif (decide (z197 < ((a0).length : Int))) then ((geto a0 z197).bind fun x207 => (bif (x207 != (0:Int)) then (inrO (some x207)) else (some (Sum.inl (IntKind.i64.wrap (z197 + (1:Int))))))) else (inrO (some (0:Int))))
noncomputable def cmp_Or_int (a0 : (List Int)) : Option (Int) :=
  (loopO (cmp_Or_int_l0 a0) (0:Int))

noncomputable def locks_compare (a0 : api_Hold) (a1 : api_ID) : Option (Int) :=
  ((cmp_Compare_uint64 a0.ID.Session a1.Session).bind fun t185 => ((cmp_Compare_uint64 a0.ID.Seq a1.Seq).bind fun t190 => ((cmp_Or_int ([t185, t190])).bind fun t202 => (some t202))))

noncomputable def locks_Table_find_l1 (o0 : locks_Table) (a1 : api_ID) (s : (Int × Int)) : Option ((Int × Int) ⊕ (Int)) :=
  match s with | (z330, z331) => (bif (decide (z331 < z330)) then ((geto o0.l (IntKind.i64.wrap (iShr .u64 (IntKind.u64.wrap (IntKind.i64.wrap (z331 + z330))) (1:Int)))).bind fun x343 => ((locks_compare x343 a1).bind fun t363 => (bif (decide (t363 < (0:Int))) then (some (Sum.inl (z330, (IntKind.i64.wrap ((IntKind.i64.wrap (iShr .u64 (IntKind.u64.wrap (IntKind.i64.wrap (z331 + z330))) (1:Int))) + (1:Int)))))) else (some (Sum.inl ((IntKind.i64.wrap (iShr .u64 (IntKind.u64.wrap (IntKind.i64.wrap (z331 + z330))) (1:Int))), z331)))))) else (inrO (some z331)))
noncomputable def locks_Table_find_j0 (o0 : locks_Table) (a1 : api_ID) (z369 : (Int)) : Option (Int × Bool) :=
  (bif (decide (z369 < ((o0.l).length : Int))) then ((geto o0.l z369).bind fun x378 => ((locks_compare x378 a1).bind fun t398 => (some (z369, (t398 == (0:Int)))))) else (some (z369, false)))
noncomputable def locks_Table_find (a0 : (Option locks_Table)) (a1 : api_ID) : Option (Int × Bool) :=
  (match a0 with | none => (some ((0:Int), false)) | some o0 => ((((loopO (locks_Table_find_l1 o0 a1) (((o0.l).length : Int), (0:Int)))).bind (locks_Table_find_j0 o0 a1)).bind fun (z403, z404) => (some (z403, z404))))

noncomputable def locks_Table_Get (a0 : (Option locks_Table)) (a1 : api_ID) : Option (api_Hold × Bool) :=
  (match a0 with | none => ((locks_Table_find none a1).bind fun t173 => (bif (!t173.2) then (some (zero_api_Hold, false)) else none)) | some o0 => ((locks_Table_find (some o0) a1).bind fun t203 => (bif (!t203.2) then (some (zero_api_Hold, false)) else ((geto o0.l t203.1).bind fun x222 => (some (x222, true))))))

noncomputable def math_IsNaN (a0 : Nat) : Option (Bool) :=
  (some (fNe a0 a0))

noncomputable def number_Rank (a0 : Nat) : Option (Int) :=
  ((math_IsNaN a0).bind fun t203 => (bif t203 then (some (18446744073709551615:Int)) else (bif ((iShr .u64 (Int.ofNat a0) (63:Int)) == (1:Int)) then (some (bXor .u64 ((18446744073709551615):Int) (Int.ofNat a0))) else (some (bOr .u64 (Int.ofNat a0) (9223372036854775808:Int))))))

noncomputable def number_Same (a0 : Nat) (a1 : Nat) : Option (Bool) :=
  ((number_Rank a0).bind fun t206 => ((number_Rank a1).bind fun t211 => (some (t206 == t211))))

noncomputable def locks_Same_1 (a0 : (Nat × Nat)) (a1 : (Nat × Nat)) : Option (Bool) :=
  ((number_Same a0.1 a1.1).bind fun t309 => (bif t309 then ((number_Same a0.2 a1.2).bind fun t315 => (some t315)) else (some false)))

noncomputable def slices_Equal_byte_byte_l0 (a0 : (List Int)) (a1 : (List Int)) (z507 : (Int)) : Option ((Int) ⊕ (Bool)) :=
  (bif (decide (z507 < ((a0).length : Int))) then ((geto a0 z507).bind fun x517 => ((geto a1 z507).bind fun x522 => (bif (x517 != x522) then (inrO (some false)) else (some (Sum.inl (IntKind.i64.wrap (z507 + (1:Int)))))))) else (inrO (some true)))
noncomputable def slices_Equal_byte_byte (a0 : (List Int)) (a1 : (List Int)) : Option (Bool) :=
  (bif (((a0).length : Int) != ((a1).length : Int)) then (some false) else (loopO (slices_Equal_byte_byte_l0 a0 a1) (0:Int)))

noncomputable def locks_Same_l0 (a0 : api_Hold) (a1 : api_Hold) (z491 : (Int)) : Option ((Int) ⊕ (Bool)) :=
  (bif (decide (z491 < ((a0.Gets).length : Int))) then ((geto a0.Gets z491).bind fun x501 => ((geto a1.Gets z491).bind fun x506 => ((number_Same x501 x506).bind fun t511 => (bif (!t511) then (inrO (some false)) else (some (Sum.inl (IntKind.i64.wrap (z491 + (1:Int))))))))) else (inrO (some true)))
noncomputable def locks_Same_l1 (a0 : api_Hold) (a1 : api_Hold) (z587 : (Int)) : Option ((Int) ⊕ (Bool)) :=
  (bif (decide (z587 < ((a0.Scans).length : Int))) then ((geto a0.Scans z587).bind fun x597 => ((geto a1.Scans z587).bind fun x609 => ((locks_Same_1 x597 x609).bind fun t621 => (bif (!t621) then (inrO (some false)) else (some (Sum.inl (IntKind.i64.wrap (z587 + (1:Int))))))))) else (inrO (some true)))
noncomputable def locks_Same_l2 (a0 : api_Hold) (a1 : api_Hold) (z669 : (Int)) : Option ((Int) ⊕ (Bool)) :=
  (bif (decide (z669 < ((a0.Puts).length : Int))) then ((geto a0.Puts z669).bind fun x679 => ((geto a1.Puts z669).bind fun x684 => ((number_Same x679 x684).bind fun t689 => (bif (!t689) then (inrO (some false)) else (some (Sum.inl (IntKind.i64.wrap (z669 + (1:Int))))))))) else (inrO (some true)))
noncomputable def locks_Same (a0 : api_Hold) (a1 : api_Hold) : Option (Bool) :=
  (bif ((a0.ID.Session == a1.ID.Session) && (a0.ID.Seq == a1.ID.Seq)) then (bif (a0.Epoch == a1.Epoch) then ((bif (((a0.Gets).length : Int) != ((a1.Gets).length : Int)) then (some false) else (loopO (locks_Same_l0 a0 a1) (0:Int))).bind fun z517 => (bif z517 then ((bif (((a0.Scans).length : Int) != ((a1.Scans).length : Int)) then (some false) else (loopO (locks_Same_l1 a0 a1) (0:Int))).bind fun z627 => (bif z627 then ((bif (((a0.Puts).length : Int) != ((a1.Puts).length : Int)) then (some false) else (loopO (locks_Same_l2 a0 a1) (0:Int))).bind fun z695 => (bif z695 then ((slices_Equal_byte_byte a0.Data a1.Data).bind fun t701 => (some t701)) else (some false))) else (some false))) else (some false))) else (some false)) else (some false))

noncomputable def number_Within (a0 : Nat) (a1 : Nat) (a2 : Nat) : Option (Bool) :=
  ((number_Rank a1).bind fun t331 => ((number_Rank a0).bind fun t336 => (bif (decide (t331 ≤ t336)) then ((number_Rank a0).bind fun t342 => ((number_Rank a2).bind fun t347 => (some (decide (t342 ≤ t347))))) else (some false))))

noncomputable def locks_writes_l0 (a0 : api_Hold) (a1 : Nat) (a2 : Nat) (z429 : (Int)) : Option ((Int) ⊕ (Int)) :=
  (bif (decide (z429 < ((a0.Puts).length : Int))) then ((geto a0.Puts z429).bind fun x439 => (((number_Within x439 a1 a2).bind fun t444 => (some t444)).bind fun z449 => (bif z449 then (inrO (some z429)) else (some (Sum.inl (IntKind.i64.wrap (z429 + (1:Int)))))))) else (inrO (some ((-1):Int))))
noncomputable def locks_writes (a0 : api_Hold) (a1 : Nat) (a2 : Nat) : Option (Bool) :=
  (((loopO (locks_writes_l0 a0 a1 a2) (0:Int)).bind fun z455 => (some (decide (z455 ≥ (0:Int))))).bind fun z460 => (some z460))

noncomputable def locks_reads_l0 (a0 : api_Hold) (a1 : Nat) (z512 : (Int)) : Option ((Int) ⊕ (Int)) :=
  (bif (decide (z512 < ((a0.Gets).length : Int))) then ((geto a0.Gets z512).bind fun x522 => (((number_Same a1 x522).bind fun t527 => (some t527)).bind fun z532 => (bif z532 then (inrO (some z512)) else (some (Sum.inl (IntKind.i64.wrap (z512 + (1:Int)))))))) else (inrO (some ((-1):Int))))
noncomputable def locks_reads_l1 (a0 : api_Hold) (a1 : Nat) (z594 : (Int)) : Option ((Int) ⊕ (Int)) :=
  (bif (decide (z594 < ((a0.Scans).length : Int))) then ((geto a0.Scans z594).bind fun x604 => (((number_Within a1 x604.1 x604.2).bind fun t614 => (some t614)).bind fun z619 => (bif z619 then (inrO (some z594)) else (some (Sum.inl (IntKind.i64.wrap (z594 + (1:Int)))))))) else (inrO (some ((-1):Int))))
noncomputable def locks_reads (a0 : api_Hold) (a1 : Nat) : Option (Bool) :=
  (((loopO (locks_reads_l0 a0 a1) (0:Int)).bind fun z538 => (some (decide (z538 ≥ (0:Int))))).bind fun z543 => (bif z543 then (some true) else (((loopO (locks_reads_l1 a0 a1) (0:Int)).bind fun z625 => (some (decide (z625 ≥ (0:Int))))).bind fun z630 => (some z630))))

noncomputable def locks_Meet_l1 (a0 : api_Hold) (a1 : api_Hold) (z449 : (Int)) : Option ((Int) ⊕ (Unit ⊕ (Bool))) :=
  (bif (decide (z449 < ((a0.Puts).length : Int))) then ((geto a0.Puts z449).bind fun x459 => ((locks_writes a1 x459 x459).bind fun t464 => (bif t464 then (inrO (inrO (some true))) else ((locks_reads a1 x459).bind fun t470 => (bif t470 then (inrO (inrO (some true))) else (some (Sum.inl (IntKind.i64.wrap (z449 + (1:Int)))))))))) else (inrO (some (Sum.inl ()))))
noncomputable def locks_Meet_l2 (a1 : api_Hold) (a0 : api_Hold) (z506 : (Int)) : Option ((Int) ⊕ (Bool)) :=
  (bif (decide (z506 < ((a1.Puts).length : Int))) then ((geto a1.Puts z506).bind fun x516 => ((locks_reads a0 x516).bind fun t521 => (bif t521 then (inrO (some true)) else (some (Sum.inl (IntKind.i64.wrap (z506 + (1:Int)))))))) else (inrO (some false)))
noncomputable def locks_Meet_j0 (a1 : api_Hold) (a0 : api_Hold) (_s : Unit) : Option (Bool) :=
  (loopO (locks_Meet_l2 a1 a0) (0:Int))
noncomputable def locks_Meet (a0 : api_Hold) (a1 : api_Hold) : Option (Bool) :=
  (joinO (loopO (locks_Meet_l1 a0 a1) (0:Int)) (locks_Meet_j0 a1 a0))

noncomputable def slices_Clone_float64_float64 (a0 : (List Nat)) : Option ((List Nat)) :=
  gd (room ([] : (List Nat)) a0) (some a0)

noncomputable def slices_Clone_2_float64_2_float64 (a0 : (List (Nat × Nat))) : Option ((List (Nat × Nat))) :=
  gd (room ([] : (List (Nat × Nat))) a0) (some a0)

noncomputable def slices_Clone_byte_byte (a0 : (List Int)) : Option ((List Int)) :=
  gd (room ([] : (List Int)) a0) (some a0)

noncomputable def slices_Insert_api_Hold_api_Hold (a0 : (List api_Hold)) (a1 : Int) (a2 : (List api_Hold)) : Option ((List api_Hold)) :=
  gd (insOK a0 a1 a2) (some (ins a0 a1 a2))

noncomputable def locks_Table_Take_l1 (o0 : locks_Table) (a1 : api_Hold) (z571 : (Int)) : Option ((Int) ⊕ (Unit ⊕ (Int × (Option locks_Table)))) :=
  (bif (decide (z571 < ((o0.l).length : Int))) then ((geto o0.l z571).bind fun x581 => (bif (!((x581.ID.Session == a1.ID.Session) && (x581.ID.Seq == a1.ID.Seq))) then ((locks_Meet x581 a1).bind fun t613 => (bif t613 then (inrO (inrO (some ((8:Int), (some o0))))) else (some (Sum.inl (IntKind.i64.wrap (z571 + (1:Int))))))) else (some (Sum.inl (IntKind.i64.wrap (z571 + (1:Int))))))) else (inrO (some (Sum.inl ()))))
noncomputable def locks_Table_Take_j0 (a1 : api_Hold) (o0 : locks_Table) (_s : Unit) : Option (Int × (Option locks_Table)) :=
  ((slices_Clone_float64_float64 a1.Gets).bind fun t624 => ((slices_Clone_2_float64_2_float64 a1.Scans).bind fun t631 => ((slices_Clone_float64_float64 a1.Puts).bind fun t638 => ((slices_Clone_byte_byte a1.Data).bind fun t645 => ((locks_Table_find (some o0) a1.ID).bind fun t658 => (bif t658.2 then ((geto o0.l t658.1).bind fun x668 => (some ((0:Int), (some ({ l := (o0.l.set t658.1.toNat ({ ID := a1.ID, Epoch := a1.Epoch, Gets := t624, Scans := t631, Puts := t638, Data := t645 } : api_Hold)) } : locks_Table))))) else ((slices_Insert_api_Hold_api_Hold o0.l t658.1 ([({ ID := a1.ID, Epoch := a1.Epoch, Gets := t624, Scans := t631, Puts := t638, Data := t645 } : api_Hold)])).bind fun t729 => (some ((0:Int), (some ({ l := t729 } : locks_Table)))))))))))
noncomputable def locks_Table_Take (a0 : (Option locks_Table)) (a1 : api_Hold) : Option (Int × (Option locks_Table)) :=
  (match a0 with | none => (some ((2:Int), none)) | some o0 => (joinO (loopO (locks_Table_Take_l1 o0 a1) (0:Int)) (locks_Table_Take_j0 a1 o0)))

noncomputable def lane_State_Hold_j1 (o0 : lane_State) (a1 : api_Hold) (_s : Unit) : Option (Int × (Option lane_State)) :=
  ((locks_Table_Take o0.locks a1).bind fun t409 => (some (t409.1, (some ({ wide := o0.wide, epoch := o0.epoch, store := o0.store, locks := t409.2, last := o0.last, book := o0.book, open_ := o0.open_, out := o0.out, used := o0.used } : lane_State)))))
noncomputable def lane_State_Hold_j0 (a1 : api_Hold) (o0 : lane_State) (s : (Int × Int × Int × (List Nat) × (List (Nat × Nat)) × (List Nat) × (List Int) × Bool)) : Option (Int × (Option lane_State)) :=
  match s with | (z319, z320, z321, z324, z328, z332, z336, z338) => (joinO (bif z338 then ((locks_Same ({ ID := ({ Session := z319, Seq := z320 } : api_ID), Epoch := z321, Gets := z324, Scans := z328, Puts := z332, Data := z336 } : api_Hold) a1).bind fun t347 => (bif t347 then (inrO (some ((0:Int), (some o0)))) else (bif (decide (a1.ID.Session < (9223372036854775808:Int))) then (inrO (some ((8:Int), (some o0)))) else (bif (decide (a1.Epoch ≤ z321)) then (inrO (some ((8:Int), (some o0)))) else (some (Sum.inl ())))))) else (bif (a1.Epoch != o0.epoch) then (inrO (some ((9:Int), (some o0)))) else (some (Sum.inl ())))) (lane_State_Hold_j1 o0 a1))
noncomputable def lane_State_Hold (a0 : (Option lane_State)) (a1 : api_Hold) : Option (Int × (Option lane_State)) :=
  (match a0 with | none => (some ((2:Int), none)) | some o0 => ((((locks_Table_Get o0.locks a1.ID).bind fun t261 => (some (t261.1.ID.Session, t261.1.ID.Seq, t261.1.Epoch, t261.1.Gets, t261.1.Scans, t261.1.Puts, t261.1.Data, t261.2)))).bind (lane_State_Hold_j0 a1 o0)))

noncomputable def math_Signbit (a0 : Nat) : Option (Bool) :=
  (some (decide ((IntKind.i64.wrap (Int.ofNat a0)) < (0:Int))))

noncomputable def ref01_Ahead_j0 (a0 : Nat) (a1 : Nat) (_s : Unit) : Option (Bool) :=
  (some (fLt a0 a1))
noncomputable def ref01_Ahead (a0 : Nat) (a1 : Nat) : Option (Bool) :=
  (bif (fNe a0 a0) then (some false) else (bif (fNe a1 a1) then (some true) else (joinO (bif (fEq a0 (0:Nat)) then (bif (fEq a1 (0:Nat)) then ((math_Signbit a0).bind fun t120 => (bif t120 then ((math_Signbit a1).bind fun t126 => (inrO (some (!t126)))) else (inrO (some false)))) else (some (Sum.inl ()))) else (some (Sum.inl ()))) (ref01_Ahead_j0 a0 a1))))

noncomputable def ref01_Same (a0 : Nat) (a1 : Nat) : Option (Bool) :=
  ((ref01_Ahead a0 a1).bind fun t107 => (bif (!t107) then ((ref01_Ahead a1 a0).bind fun t113 => (some (!t113))) else (some false)))

noncomputable def locks_Table_Until_l0 (o0 : locks_Table) (a1 : Int) (z402 : (Int)) : Option ((Int) ⊕ (Int)) :=
  (bif (decide (z402 < ((o0.l).length : Int))) then ((geto o0.l z402).bind fun x412 => ((some ()).bind fun _ => (bif (decide (x412.Epoch ≤ a1)) then (inrO (some z402)) else (some (Sum.inl (IntKind.i64.wrap (z402 + (1:Int)))))))) else (inrO (some ((-1):Int))))
noncomputable def locks_Table_Until (a0 : (Option locks_Table)) (a1 : Int) : Option (Bool) :=
  (match a0 with | none => (some false) | some o0 => (((loopO (locks_Table_Until_l0 o0 a1) (0:Int)).bind fun z442 => (some (decide (z442 ≥ (0:Int))))).bind fun z447 => (some z447)))

noncomputable def lane_State_May (a0 : (Option lane_State)) : Option (Bool) :=
  (match a0 with | none => (some false) | some o0 => ((locks_Table_Until o0.locks o0.epoch).bind fun t234 => (some (!t234))))

noncomputable def slices_Clone_mvcc_Version_mvcc_Version (a0 : (List mvcc_Version)) : Option ((List mvcc_Version)) :=
  gd (room ([] : (List mvcc_Version)) a0) (some a0)

noncomputable def mvcc_Store_Trim_l2 (x1348 : mvcc_row) (a1 : Int) (s : (Int × Int)) : Option ((Int × Int) ⊕ (Int)) :=
  match s with | (z1405, z1406) => (bif (decide (z1405 < z1406)) then (((geto x1348.l (IntKind.i64.wrap (iShr .u64 (IntKind.u64.wrap (IntKind.i64.wrap (z1405 + z1406))) (1:Int)))).bind fun x1416 => (some (decide (x1416.Epoch > a1)))).bind fun z1427 => (bif (!z1427) then (some (Sum.inl ((IntKind.i64.wrap ((IntKind.i64.wrap (iShr .u64 (IntKind.u64.wrap (IntKind.i64.wrap (z1405 + z1406))) (1:Int))) + (1:Int))), z1406))) else (some (Sum.inl (z1405, (IntKind.i64.wrap (iShr .u64 (IntKind.u64.wrap (IntKind.i64.wrap (z1405 + z1406))) (1:Int)))))))) else (inrO (some z1405)))
noncomputable def mvcc_Store_Trim_j3 (z1336 : (List mvcc_row)) (x1348 : mvcc_row) (z1335 : Int) (z1471 : ((List mvcc_Version))) : Option ((Int × (List mvcc_row)) ⊕ ((List mvcc_row))) :=
  (bif (decide (((z1471).length : Int) > (0:Int))) then (gd (room z1336 ([({ rank := x1348.rank, l := z1471 } : mvcc_row)])) (some (Sum.inl ((IntKind.i64.wrap (z1335 + (1:Int))), (z1336 ++ ([({ rank := x1348.rank, l := z1471 } : mvcc_row)])))))) else (some (Sum.inl ((IntKind.i64.wrap (z1335 + (1:Int))), z1336))))
noncomputable def mvcc_Store_Trim_l1 (o0 : mvcc_Store) (a1 : Int) (s : (Int × (List mvcc_row))) : Option ((Int × (List mvcc_row)) ⊕ ((List mvcc_row))) :=
  match s with | (z1335, z1336) => (bif (decide (z1335 < ((o0.rows).length : Int))) then ((geto o0.rows z1335).bind fun x1348 => ((loopO (mvcc_Store_Trim_l2 x1348 a1) ((0:Int), ((x1348.l).length : Int))).bind fun z1433 => (gd (fits x1348.l (if (0:Int) > (IntKind.i64.wrap (z1433 - (1:Int))) then (0:Int) else (IntKind.i64.wrap (z1433 - (1:Int)))) (((x1348.l).length : Nat) : Int)) ((slices_Clone_mvcc_Version_mvcc_Version (subs x1348.l (if (0:Int) > (IntKind.i64.wrap (z1433 - (1:Int))) then (0:Int) else (IntKind.i64.wrap (z1433 - (1:Int)))) (((x1348.l).length : Nat) : Int))).bind fun t1444 => (((bif (decide (z1433 > (0:Int))) then ((geto t1444 (0:Int)).bind fun x1452 => (bif x1452.Del then (gd (fits t1444 (1:Int) (((t1444).length : Nat) : Int)) (some (subs t1444 (1:Int) (((t1444).length : Nat) : Int)))) else (some t1444))) else (some t1444))).bind (mvcc_Store_Trim_j3 z1336 x1348 z1335)))))) else (inrO (some z1336)))
noncomputable def mvcc_Store_Trim_j0 (z1494 : ((List mvcc_row))) : Option ((Option mvcc_Store)) :=
  (some (some ({ rows := z1494 } : mvcc_Store)))
noncomputable def mvcc_Store_Trim (a0 : (Option mvcc_Store)) (a1 : Int) : Option ((Option mvcc_Store)) :=
  (match a0 with | none => (some none) | some o0 => (((loopO (mvcc_Store_Trim_l1 o0 a1) ((0:Int), []))).bind (mvcc_Store_Trim_j0)))

noncomputable def lane_State_shut (a0 : (Option lane_State)) (a1 : api_Command) : Option (api_Effect × (Option lane_State)) :=
  (match a0 with | none => none | some o0 => (bif (a1.Epoch != o0.epoch) then (some (zero_api_Effect, (some o0))) else ((lane_State_May (some o0)).bind fun t324 => (bif (!t324) then (some (zero_api_Effect, (some o0))) else (bif (decide ((IntKind.u64.wrap (o0.epoch + (1:Int))) > (9:Int))) then ((mvcc_Store_Trim o0.store (IntKind.u64.wrap ((IntKind.u64.wrap ((IntKind.u64.wrap (o0.epoch + (1:Int))) - (1:Int))) - (8:Int)))).bind fun t353 => (some (({ Kind := (1:Int), ID := ({ Session := (0:Int), Seq := (0:Int) } : api_ID), R := zero_api_Reply } : api_Effect), (some ({ wide := o0.wide, epoch := (IntKind.u64.wrap (o0.epoch + (1:Int))), store := t353, locks := o0.locks, last := o0.last, book := o0.book, open_ := o0.open_, out := o0.out, used := o0.used } : lane_State))))) else (some (({ Kind := (1:Int), ID := ({ Session := (0:Int), Seq := (0:Int) } : api_ID), R := zero_api_Reply } : api_Effect), (some ({ wide := o0.wide, epoch := (IntKind.u64.wrap (o0.epoch + (1:Int))), store := o0.store, locks := o0.locks, last := o0.last, book := o0.book, open_ := o0.open_, out := o0.out, used := o0.used } : lane_State)))))))))

noncomputable def mvcc_Store_find_l0 (o0 : mvcc_Store) (a1 : Int) (s : (Int × Int)) : Option ((Int × Int) ⊕ (Int)) :=
  match s with | (z441, z442) => (bif (decide (z441 < z442)) then (((geto o0.rows (IntKind.i64.wrap (iShr .u64 (IntKind.u64.wrap (IntKind.i64.wrap (z441 + z442))) (1:Int)))).bind fun x452 => (some (decide (x452.rank ≥ a1)))).bind fun z457 => (bif (!z457) then (some (Sum.inl ((IntKind.i64.wrap ((IntKind.i64.wrap (iShr .u64 (IntKind.u64.wrap (IntKind.i64.wrap (z441 + z442))) (1:Int))) + (1:Int))), z442))) else (some (Sum.inl (z441, (IntKind.i64.wrap (iShr .u64 (IntKind.u64.wrap (IntKind.i64.wrap (z441 + z442))) (1:Int)))))))) else (inrO (some z441)))
noncomputable def mvcc_Store_find (a0 : (Option mvcc_Store)) (a1 : Int) : Option (Int × Bool) :=
  (match a0 with | none => (some ((0:Int), false)) | some o0 => ((loopO (mvcc_Store_find_l0 o0 a1) ((0:Int), ((o0.rows).length : Int))).bind fun z463 => (bif (decide (z463 < ((o0.rows).length : Int))) then ((geto o0.rows z463).bind fun x469 => (some (z463, (x469.rank == a1)))) else (some (z463, false)))))

noncomputable def mvcc_read_l0 (a0 : (List mvcc_Version)) (a1 : Int) (s : (Int × Int)) : Option ((Int × Int) ⊕ (Int)) :=
  match s with | (z524, z525) => (bif (decide (z524 < z525)) then (((geto a0 (IntKind.i64.wrap (iShr .u64 (IntKind.u64.wrap (IntKind.i64.wrap (z524 + z525))) (1:Int)))).bind fun x535 => (some (decide (x535.Epoch > a1)))).bind fun z546 => (bif (!z546) then (some (Sum.inl ((IntKind.i64.wrap ((IntKind.i64.wrap (iShr .u64 (IntKind.u64.wrap (IntKind.i64.wrap (z524 + z525))) (1:Int))) + (1:Int))), z525))) else (some (Sum.inl (z524, (IntKind.i64.wrap (iShr .u64 (IntKind.u64.wrap (IntKind.i64.wrap (z524 + z525))) (1:Int)))))))) else (inrO (some z524)))
noncomputable def mvcc_read (a0 : (List mvcc_Version)) (a1 : Int) : Option (api_Got) :=
  ((loopO (mvcc_read_l0 a0 a1) ((0:Int), ((a0).length : Int))).bind fun z552 => (bif (z552 == (0:Int)) then (some ({ Has := false, Val := [] } : api_Got)) else ((geto a0 (IntKind.i64.wrap (z552 - (1:Int)))).bind fun x561 => (bif x561.Del then (some ({ Has := false, Val := [] } : api_Got)) else ((slices_Clone_byte_byte x561.Val).bind fun t576 => (some ({ Has := true, Val := t576 } : api_Got)))))))

noncomputable def mvcc_Store_Get (a0 : (Option mvcc_Store)) (a1 : Nat) (a2 : Int) : Option (api_Got) :=
  (match a0 with | none => ((number_Rank a1).bind fun t366 => ((mvcc_Store_find none t366).bind fun t372 => (bif (!t372.2) then (some ({ Has := false, Val := [] } : api_Got)) else none))) | some o0 => ((number_Rank a1).bind fun t387 => ((mvcc_Store_find (some o0) t387).bind fun t392 => (bif (!t392.2) then (some ({ Has := false, Val := [] } : api_Got)) else ((geto o0.rows t392.1).bind fun x404 => ((mvcc_read x404.l a2).bind fun t413 => (some t413)))))))

noncomputable def number_Back (a0 : Int) : Option (Nat) :=
  (bif ((iShr .u64 a0 (63:Int)) == (1:Int)) then (some (Int.toNat (bAndNot .u64 a0 (9223372036854775808:Int)))) else (some (Int.toNat (bXor .u64 ((18446744073709551615):Int) a0))))

noncomputable def mvcc_Store_Scan_l0 (o0 : mvcc_Store) (a2 : Nat) (a4 : Int) (a3 : Int) (s : ((List api_Pair) × Int)) : Option (((List api_Pair) × Int) ⊕ ((List api_Pair))) :=
  match s with | (z966, z969) => (bif (decide (z969 < ((o0.rows).length : Int))) then ((geto o0.rows z969).bind fun x984 => ((number_Rank a2).bind fun t989 => (bif (decide (x984.rank ≤ t989)) then (bif (decide (((z966).length : Int) < a4)) then ((mvcc_read x984.l a3).bind fun t1000 => (bif t1000.Has then ((number_Back x984.rank).bind fun t1016 => (gd (room z966 ([({ At := t1016, Val := t1000.Val } : api_Pair)])) (some (Sum.inl ((z966 ++ ([({ At := t1016, Val := t1000.Val } : api_Pair)])), (IntKind.i64.wrap (z969 + (1:Int)))))))) else (some (Sum.inl (z966, (IntKind.i64.wrap (z969 + (1:Int)))))))) else (inrO (some z966))) else (inrO (some z966))))) else (inrO (some z966)))
noncomputable def mvcc_Store_Scan (a0 : (Option mvcc_Store)) (a1 : Nat) (a2 : Nat) (a3 : Int) (a4 : Int) : Option ((List api_Pair)) :=
  (match a0 with | none => (some ([])) | some o0 => ((number_Rank a1).bind fun t781 => ((mvcc_Store_find (some o0) t781).bind fun t786 => (loopO (mvcc_Store_Scan_l0 o0 a2 a4 a3) ([], t786.1)))))

noncomputable def lane_State_Told_l1 (a1 : api_Hold) (o0 : lane_State) (s : ((List api_Got) × Int)) : Option (((List api_Got) × Int) ⊕ ((List api_Got))) :=
  match s with | (z923, z926) => (bif (decide (z926 < ((a1.Gets).length : Int))) then ((geto a1.Gets z926).bind fun x937 => ((mvcc_Store_Get o0.store x937 (18446744073709551615:Int)).bind fun t958 => (gd (room z923 ([t958])) (some (Sum.inl ((z923 ++ ([t958])), (IntKind.i64.wrap (z926 + (1:Int))))))))) else (inrO (some z923)))
noncomputable def lane_State_Told_l2 (a1 : api_Hold) (o0 : lane_State) (z983 : (List api_Got)) (s : ((List (List api_Pair)) × Int)) : Option (((List (List api_Pair)) × Int) ⊕ (api_Reply)) :=
  match s with | (z1151, z1154) => (bif (decide (z1154 < ((a1.Scans).length : Int))) then ((geto a1.Scans z1154).bind fun x1165 => ((mvcc_Store_Scan o0.store x1165.1 x1165.2 (18446744073709551615:Int) (64:Int)).bind fun t1193 => (gd (room z1151 ([t1193])) (some (Sum.inl ((z1151 ++ ([t1193])), (IntKind.i64.wrap (z1154 + (1:Int))))))))) else (inrO (some ({ E := (0:Int), Epoch := (0:Int), Index := (0:Int), Gots := z983, Scans := z1151 } : api_Reply))))
noncomputable def lane_State_Told_j0 (a1 : api_Hold) (o0 : lane_State) (z983 : ((List api_Got))) : Option (api_Reply) :=
  (loopO (lane_State_Told_l2 a1 o0 z983) ([], (0:Int)))
noncomputable def lane_State_Told (a0 : (Option lane_State)) (a1 : api_Hold) : Option (api_Reply) :=
  (match a0 with | none => (some zero_api_Reply) | some o0 => (((loopO (lane_State_Told_l1 a1 o0) ([], (0:Int)))).bind (lane_State_Told_j0 a1 o0)))

noncomputable def lane_State_prepare (a0 : (Option lane_State)) (a1 : api_Command) : Option (api_Effect × (Option lane_State)) :=
  ((lane_State_Hold a0 a1.Hold).bind fun t277 => (bif (t277.1 == (0:Int)) then ((lane_State_Told t277.2 a1.Hold).bind fun t285 => (some (({ Kind := (2:Int), ID := a1.Hold.ID, R := t285 } : api_Effect), t277.2))) else (some (({ Kind := (2:Int), ID := a1.Hold.ID, R := ({ E := t277.1, Epoch := (0:Int), Index := (0:Int), Gots := [], Scans := [] } : api_Reply) } : api_Effect), t277.2))))

noncomputable def slices_Delete_api_Hold_api_Hold (a0 : (List api_Hold)) (a1 a2 : Int) : Option ((List api_Hold)) :=
  gd (fits a0 a1 a2) (some (del a0 a1 a2))

noncomputable def locks_Table_Drop (a0 : (Option locks_Table)) (a1 : api_ID) : Option (Bool × (Option locks_Table)) :=
  (match a0 with | none => ((locks_Table_find none a1).bind fun t268 => (bif t268.2 then none else (some (t268.2, none)))) | some o0 => ((locks_Table_find (some o0) a1).bind fun t279 => (bif t279.2 then ((slices_Delete_api_Hold_api_Hold o0.l t279.1 (IntKind.i64.wrap (t279.1 + (1:Int)))).bind fun t288 => (some (t279.2, (some ({ l := t288 } : locks_Table))))) else (some (t279.2, (some o0))))))

noncomputable def slices_Insert_mvcc_row_mvcc_row_raw (a0 : (List (List Value))) (a1 : Int) (a2 : (List (List Value))) : Option ((List (List Value))) :=
  gd (insOK a0 a1 a2) (some (ins a0 a1 a2))

noncomputable def slices_Insert_mvcc_row_mvcc_row (a0 : (List mvcc_row)) (a1 : Int) (a2 : (List mvcc_row)) : Option ((List mvcc_row)) :=
  gd (insOK a0 a1 a2) (some (ins a0 a1 a2))

noncomputable def mvcc_ahead (a0 : mvcc_Version) (a1 : Int) (a2 : Int) : Option (Bool) :=
  (bif (decide (a0.Epoch < a1)) then (some true) else (bif (a0.Epoch == a1) then (some (decide (a0.Index < a2))) else (some false)))

noncomputable def slices_Insert_mvcc_Version_mvcc_Version (a0 : (List mvcc_Version)) (a1 : Int) (a2 : (List mvcc_Version)) : Option ((List mvcc_Version)) :=
  gd (insOK a0 a1 a2) (some (ins a0 a1 a2))

noncomputable def mvcc_Store_Put_l2 (x605 : mvcc_row) (a2 : mvcc_Version) (s : (Int × Int)) : Option ((Int × Int) ⊕ (Int)) :=
  match s with | (z673, z674) => (bif (decide (z673 < z674)) then (((geto x605.l (IntKind.i64.wrap (iShr .u64 (IntKind.u64.wrap (IntKind.i64.wrap (z673 + z674))) (1:Int)))).bind fun x686 => ((mvcc_ahead x686 a2.Epoch a2.Index).bind fun t697 => (some (!t697)))).bind fun z702 => (bif (!z702) then (some (Sum.inl ((IntKind.i64.wrap ((IntKind.i64.wrap (iShr .u64 (IntKind.u64.wrap (IntKind.i64.wrap (z673 + z674))) (1:Int))) + (1:Int))), z674))) else (some (Sum.inl (z673, (IntKind.i64.wrap (iShr .u64 (IntKind.u64.wrap (IntKind.i64.wrap (z673 + z674))) (1:Int)))))))) else (inrO (some z673)))
noncomputable def mvcc_Store_Put_j3 (x605 : mvcc_row) (z708 : Int) (a2 : mvcc_Version) (z553 : (List Int)) (z595 : mvcc_Store) (t564 : (Int × Bool)) (_s : Unit) : Option ((Option mvcc_Store)) :=
  ((slices_Insert_mvcc_Version_mvcc_Version x605.l z708 ([({ Epoch := a2.Epoch, Index := a2.Index, Del := a2.Del, Val := z553 } : mvcc_Version)])).bind fun t758 => (some (some ({ rows := (z595.rows.set t564.1.toNat ({ rank := x605.rank, l := t758 } : mvcc_row)) } : mvcc_Store))))
noncomputable def mvcc_Store_Put_j1 (t564 : (Int × Bool)) (a2 : mvcc_Version) (z553 : (List Int)) (z595 : (mvcc_Store)) : Option ((Option mvcc_Store)) :=
  ((geto z595.rows t564.1).bind fun x605 => ((loopO (mvcc_Store_Put_l2 x605 a2) ((0:Int), ((x605.l).length : Int))).bind fun z708 => (joinO (bif (decide (z708 < ((x605.l).length : Int))) then ((geto x605.l z708).bind fun x716 => (bif (x716.Epoch == a2.Epoch) then (bif (x716.Index == a2.Index) then (inrO (some (some ({ rows := (z595.rows.set t564.1.toNat ({ rank := x605.rank, l := (x605.l.set z708.toNat ({ Epoch := a2.Epoch, Index := a2.Index, Del := a2.Del, Val := z553 } : mvcc_Version)) } : mvcc_row)) } : mvcc_Store)))) else (some (Sum.inl ()))) else (some (Sum.inl ())))) else (some (Sum.inl ()))) (mvcc_Store_Put_j3 x605 z708 a2 z553 z595 t564))))
noncomputable def mvcc_Store_Put_j0 (a1 : Nat) (o0 : mvcc_Store) (a2 : mvcc_Version) (z553 : ((List Int))) : Option ((Option mvcc_Store)) :=
  ((number_Rank a1).bind fun t559 => ((mvcc_Store_find (some o0) t559).bind fun t564 => (((bif (!t564.2) then ((number_Rank a1).bind fun t574 => ((slices_Insert_mvcc_row_mvcc_row o0.rows t564.1 ([({ rank := t574, l := [] } : mvcc_row)])).bind fun t586 => (some ({ rows := t586 } : mvcc_Store)))) else (some o0))).bind (mvcc_Store_Put_j1 t564 a2 z553))))
noncomputable def mvcc_Store_Put (a0 : (Option mvcc_Store)) (a1 : Nat) (a2 : mvcc_Version) : Option ((Option mvcc_Store)) :=
  (match a0 with | none => (some none) | some o0 => ((slices_Clone_byte_byte a2.Val).bind fun t538 => (((bif a2.Del then (some ([])) else (some t538))).bind (mvcc_Store_Put_j0 a1 o0 a2))))

noncomputable def lane_State_finish_l0 (a1 : api_Command) (s : (lane_State × Int)) : Option ((lane_State × Int) ⊕ (api_Effect × (Option lane_State))) :=
  match s with | (z551, z552) => (bif (decide (z552 < ((a1.Writes).length : Int))) then ((geto a1.Writes z552).bind fun x563 => ((mvcc_Store_Put z551.store x563.At ({ Epoch := a1.Epoch, Index := a1.Index, Del := x563.Del, Val := x563.Val } : mvcc_Version)).bind fun t599 => (some (Sum.inl (({ wide := z551.wide, epoch := z551.epoch, store := t599, locks := z551.locks, last := z551.last, book := z551.book, open_ := z551.open_, out := z551.out, used := z551.used } : lane_State), (IntKind.i64.wrap (z552 + (1:Int)))))))) else (inrO (some (({ Kind := (3:Int), ID := a1.ID, R := zero_api_Reply } : api_Effect), (some z551)))))
noncomputable def lane_State_finish (a0 : (Option lane_State)) (a1 : api_Command) : Option (api_Effect × (Option lane_State)) :=
  (match a0 with | none => none | some o0 => ((locks_Table_Drop o0.locks a1.ID).bind fun t458 => (bif t458.1 then (bif (a1.E == (0:Int)) then (loopO (lane_State_finish_l0 a1) (({ wide := o0.wide, epoch := o0.epoch, store := o0.store, locks := t458.2, last := o0.last, book := o0.book, open_ := o0.open_, out := o0.out, used := o0.used } : lane_State), (0:Int))) else (some (({ Kind := (3:Int), ID := a1.ID, R := zero_api_Reply } : api_Effect), (some ({ wide := o0.wide, epoch := o0.epoch, store := o0.store, locks := t458.2, last := o0.last, book := o0.book, open_ := o0.open_, out := o0.out, used := o0.used } : lane_State))))) else (some (({ Kind := (3:Int), ID := a1.ID, R := zero_api_Reply } : api_Effect), (some ({ wide := o0.wide, epoch := o0.epoch, store := o0.store, locks := t458.2, last := o0.last, book := o0.book, open_ := o0.open_, out := o0.out, used := o0.used } : lane_State)))))))

noncomputable def session_Table_find_1 (a0 : session_row) (a1 : Int) : Option (Int) :=
  ((cmp_Compare_uint64 a0.session a1).bind fun t319 => (some t319))

noncomputable def session_Table_find_l1 (o0 : session_Table) (a1 : Int) (s : (Int × Int)) : Option ((Int × Int) ⊕ (Int)) :=
  match s with | (z440, z441) => (bif (decide (z441 < z440)) then ((geto o0.l (IntKind.i64.wrap (iShr .u64 (IntKind.u64.wrap (IntKind.i64.wrap (z441 + z440))) (1:Int)))).bind fun x451 => ((session_Table_find_1 x451 a1).bind fun t465 => (bif (decide (t465 < (0:Int))) then (some (Sum.inl (z440, (IntKind.i64.wrap ((IntKind.i64.wrap (iShr .u64 (IntKind.u64.wrap (IntKind.i64.wrap (z441 + z440))) (1:Int))) + (1:Int)))))) else (some (Sum.inl ((IntKind.i64.wrap (iShr .u64 (IntKind.u64.wrap (IntKind.i64.wrap (z441 + z440))) (1:Int))), z441)))))) else (inrO (some z441)))
noncomputable def session_Table_find_j0 (o0 : session_Table) (a1 : Int) (z471 : (Int)) : Option (Int × Bool) :=
  (bif (decide (z471 < ((o0.l).length : Int))) then ((geto o0.l z471).bind fun x478 => ((session_Table_find_1 x478 a1).bind fun t492 => (some (z471, (t492 == (0:Int)))))) else (some (z471, false)))
noncomputable def session_Table_find (a0 : (Option session_Table)) (a1 : Int) : Option (Int × Bool) :=
  (match a0 with | none => (some ((0:Int), false)) | some o0 => ((((loopO (session_Table_find_l1 o0 a1) (((o0.l).length : Int), (0:Int)))).bind (session_Table_find_j0 o0 a1)).bind fun (z497, z498) => (some (z497, z498))))

noncomputable def slices_Insert_session_row_session_row (a0 : (List session_row)) (a1 : Int) (a2 : (List session_row)) : Option ((List session_row)) :=
  gd (insOK a0 a1 a2) (some (ins a0 a1 a2))

noncomputable def session_Table_Put_j1 (t406 : (Int × Bool)) (a2 : Int) (a3 : api_Reply) (z461 : (session_Table)) : Option (Int × (Option session_Table)) :=
  ((geto z461.l t406.1).bind fun x471 => (some ((0:Int), (some ({ l := ((z461.l.set t406.1.toNat ({ session := x471.session, seq := a2, r := x471.r } : session_row)).set t406.1.toNat ({ session := ({ session := x471.session, seq := a2, r := x471.r } : session_row).session, seq := ({ session := x471.session, seq := a2, r := x471.r } : session_row).seq, r := a3 } : session_row)) } : session_Table)))))
noncomputable def session_Table_Put_j0 (t406 : (Int × Bool)) (o0 : session_Table) (a1 : Int) (a2 : Int) (a3 : api_Reply) (_s : Unit) : Option (Int × (Option session_Table)) :=
  (((bif (!t406.2) then ((slices_Insert_session_row_session_row o0.l t406.1 ([({ session := a1, seq := (0:Int), r := zero_api_Reply } : session_row)])).bind fun t452 => (some ({ l := t452 } : session_Table))) else (some o0))).bind (session_Table_Put_j1 t406 a2 a3))
noncomputable def session_Table_Put (a0 : (Option session_Table)) (a1 : Int) (a2 : Int) (a3 : api_Reply) : Option (Int × (Option session_Table)) :=
  (match a0 with | none => (some ((2:Int), none)) | some o0 => (bif (a2 == (0:Int)) then (some ((1:Int), (some o0))) else ((session_Table_find (some o0) a1).bind fun t406 => (joinO (bif t406.2 then ((geto o0.l t406.1).bind fun x416 => (bif (decide (x416.seq ≥ a2)) then (inrO (some ((10:Int), (some o0)))) else (some (Sum.inl ())))) else (some (Sum.inl ()))) (session_Table_Put_j0 t406 o0 a1 a2 a3)))))

noncomputable def session_Table_Last (a0 : (Option session_Table)) (a1 : Int) : Option (Int) :=
  (match a0 with | none => ((session_Table_find none a1).bind fun t391 => (bif (!t391.2) then (some (0:Int)) else none)) | some o0 => ((session_Table_find (some o0) a1).bind fun t397 => (bif (!t397.2) then (some (0:Int)) else ((geto o0.l t397.1).bind fun x406 => (some x406.seq)))))

noncomputable def lane_State_late (a0 : (Option lane_State)) (a1 : api_ID) : Option (api_Effect) :=
  (match a0 with | none => none | some o0 => ((session_Table_Last o0.last a1.Session).bind fun t441 => (bif (decide (t441 ≤ a1.Seq)) then (some zero_api_Effect) else (some ({ Kind := (4:Int), ID := a1, R := ({ E := (10:Int), Epoch := (0:Int), Index := (0:Int), Gots := [], Scans := [] } : api_Reply) } : api_Effect)))))

noncomputable def slices_Clone_api_Part_api_Part (a0 : (List api_Part)) : Option ((List api_Part)) :=
  gd (room ([] : (List api_Part)) a0) (some a0)

noncomputable def lane_State_find_1 (a0 : api_Decision) (a1 : api_ID) : Option (Int) :=
  ((cmp_Compare_uint64 a0.ID.Session a1.Session).bind fun t473 => ((cmp_Compare_uint64 a0.ID.Seq a1.Seq).bind fun t478 => ((cmp_Or_int ([t473, t478])).bind fun t490 => (some t490))))

noncomputable def lane_State_find_l1 (o0 : lane_State) (a1 : api_ID) (s : (Int × Int)) : Option ((Int × Int) ⊕ (Int)) :=
  match s with | (z591, z592) => (bif (decide (z592 < z591)) then ((geto o0.open_ (IntKind.i64.wrap (iShr .u64 (IntKind.u64.wrap (IntKind.i64.wrap (z592 + z591))) (1:Int)))).bind fun x604 => ((lane_State_find_1 x604 a1).bind fun t615 => (bif (decide (t615 < (0:Int))) then (some (Sum.inl (z591, (IntKind.i64.wrap ((IntKind.i64.wrap (iShr .u64 (IntKind.u64.wrap (IntKind.i64.wrap (z592 + z591))) (1:Int))) + (1:Int)))))) else (some (Sum.inl ((IntKind.i64.wrap (iShr .u64 (IntKind.u64.wrap (IntKind.i64.wrap (z592 + z591))) (1:Int))), z592)))))) else (inrO (some z592)))
noncomputable def lane_State_find_j0 (o0 : lane_State) (a1 : api_ID) (z621 : (Int)) : Option (Int × Bool) :=
  (bif (decide (z621 < ((o0.open_).length : Int))) then ((geto o0.open_ z621).bind fun x630 => ((lane_State_find_1 x630 a1).bind fun t641 => (some (z621, (t641 == (0:Int)))))) else (some (z621, false)))
noncomputable def lane_State_find (a0 : (Option lane_State)) (a1 : api_ID) : Option (Int × Bool) :=
  (match a0 with | none => none | some o0 => ((((loopO (lane_State_find_l1 o0 a1) (((o0.open_).length : Int), (0:Int)))).bind (lane_State_find_j0 o0 a1)).bind fun (z646, z647) => (some (z646, z647))))

noncomputable def slices_Insert_api_Decision_api_Decision (a0 : (List api_Decision)) (a1 : Int) (a2 : (List api_Decision)) : Option ((List api_Decision)) :=
  gd (insOK a0 a1 a2) (some (ins a0 a1 a2))

noncomputable def lane_State_decide_j0 (_s : Unit) : Option (api_Effect × (Option lane_State)) :=
  none
noncomputable def lane_State_decide_j2 (a2 : api_Command) (a1 : Int) (z890 : (lane_State)) : Option (api_Effect × (Option lane_State)) :=
  (some (({ Kind := (4:Int), ID := a2.ID, R := ({ E := (9:Int), Epoch := a2.Epoch, Index := a1, Gots := [], Scans := [] } : api_Reply) } : api_Effect), (some z890)))
noncomputable def lane_State_decide_j1 (o0 : lane_State) (a2 : api_Command) (a1 : Int) (_s : Unit) : Option (api_Effect × (Option lane_State)) :=
  ((session_Table_Put o0.last a2.ID.Session a2.ID.Seq ({ E := (9:Int), Epoch := a2.Epoch, Index := a1, Gots := [], Scans := [] } : api_Reply)).bind fun t771 => (bif (t771.1 != (0:Int)) then ((lane_State_late (some ({ wide := o0.wide, epoch := o0.epoch, store := o0.store, locks := o0.locks, last := t771.2, book := o0.book, open_ := o0.open_, out := o0.out, used := o0.used } : lane_State)) a2.ID).bind fun t777 => (some (t777, (some ({ wide := o0.wide, epoch := o0.epoch, store := o0.store, locks := o0.locks, last := t771.2, book := o0.book, open_ := o0.open_, out := o0.out, used := o0.used } : lane_State))))) else (((bif (a2.Shards != (0:Int)) then (bif ((9:Int) == (0:Int)) then ((slices_Clone_api_Part_api_Part a2.Parts).bind fun t805 => ((lane_State_find (some ({ wide := o0.wide, epoch := o0.epoch, store := o0.store, locks := o0.locks, last := t771.2, book := o0.book, open_ := o0.open_, out := o0.out, used := o0.used } : lane_State)) a2.ID).bind fun t814 => ((slices_Insert_api_Decision_api_Decision (({ wide := o0.wide, epoch := o0.epoch, store := o0.store, locks := o0.locks, last := t771.2, book := o0.book, open_ := o0.open_, out := o0.out, used := o0.used } : lane_State).open_) t814.1 ([({ ID := a2.ID, E := (9:Int), Epoch := a2.Epoch, Index := a1, Shards := a2.Shards, Parts := t805 } : api_Decision)])).bind fun t844 => (some ({ wide := ({ wide := o0.wide, epoch := o0.epoch, store := o0.store, locks := o0.locks, last := t771.2, book := o0.book, open_ := o0.open_, out := o0.out, used := o0.used } : lane_State).wide, epoch := ({ wide := o0.wide, epoch := o0.epoch, store := o0.store, locks := o0.locks, last := t771.2, book := o0.book, open_ := o0.open_, out := o0.out, used := o0.used } : lane_State).epoch, store := ({ wide := o0.wide, epoch := o0.epoch, store := o0.store, locks := o0.locks, last := t771.2, book := o0.book, open_ := o0.open_, out := o0.out, used := o0.used } : lane_State).store, locks := ({ wide := o0.wide, epoch := o0.epoch, store := o0.store, locks := o0.locks, last := t771.2, book := o0.book, open_ := o0.open_, out := o0.out, used := o0.used } : lane_State).locks, last := ({ wide := o0.wide, epoch := o0.epoch, store := o0.store, locks := o0.locks, last := t771.2, book := o0.book, open_ := o0.open_, out := o0.out, used := o0.used } : lane_State).last, book := ({ wide := o0.wide, epoch := o0.epoch, store := o0.store, locks := o0.locks, last := t771.2, book := o0.book, open_ := o0.open_, out := o0.out, used := o0.used } : lane_State).book, open_ := t844, out := ({ wide := o0.wide, epoch := o0.epoch, store := o0.store, locks := o0.locks, last := t771.2, book := o0.book, open_ := o0.open_, out := o0.out, used := o0.used } : lane_State).out, used := ({ wide := o0.wide, epoch := o0.epoch, store := o0.store, locks := o0.locks, last := t771.2, book := o0.book, open_ := o0.open_, out := o0.out, used := o0.used } : lane_State).used } : lane_State))))) else ((lane_State_find (some ({ wide := o0.wide, epoch := o0.epoch, store := o0.store, locks := o0.locks, last := t771.2, book := o0.book, open_ := o0.open_, out := o0.out, used := o0.used } : lane_State)) a2.ID).bind fun t853 => ((slices_Insert_api_Decision_api_Decision (({ wide := o0.wide, epoch := o0.epoch, store := o0.store, locks := o0.locks, last := t771.2, book := o0.book, open_ := o0.open_, out := o0.out, used := o0.used } : lane_State).open_) t853.1 ([({ ID := a2.ID, E := (9:Int), Epoch := a2.Epoch, Index := a1, Shards := a2.Shards, Parts := [] } : api_Decision)])).bind fun t881 => (some ({ wide := ({ wide := o0.wide, epoch := o0.epoch, store := o0.store, locks := o0.locks, last := t771.2, book := o0.book, open_ := o0.open_, out := o0.out, used := o0.used } : lane_State).wide, epoch := ({ wide := o0.wide, epoch := o0.epoch, store := o0.store, locks := o0.locks, last := t771.2, book := o0.book, open_ := o0.open_, out := o0.out, used := o0.used } : lane_State).epoch, store := ({ wide := o0.wide, epoch := o0.epoch, store := o0.store, locks := o0.locks, last := t771.2, book := o0.book, open_ := o0.open_, out := o0.out, used := o0.used } : lane_State).store, locks := ({ wide := o0.wide, epoch := o0.epoch, store := o0.store, locks := o0.locks, last := t771.2, book := o0.book, open_ := o0.open_, out := o0.out, used := o0.used } : lane_State).locks, last := ({ wide := o0.wide, epoch := o0.epoch, store := o0.store, locks := o0.locks, last := t771.2, book := o0.book, open_ := o0.open_, out := o0.out, used := o0.used } : lane_State).last, book := ({ wide := o0.wide, epoch := o0.epoch, store := o0.store, locks := o0.locks, last := t771.2, book := o0.book, open_ := o0.open_, out := o0.out, used := o0.used } : lane_State).book, open_ := t881, out := ({ wide := o0.wide, epoch := o0.epoch, store := o0.store, locks := o0.locks, last := t771.2, book := o0.book, open_ := o0.open_, out := o0.out, used := o0.used } : lane_State).out, used := ({ wide := o0.wide, epoch := o0.epoch, store := o0.store, locks := o0.locks, last := t771.2, book := o0.book, open_ := o0.open_, out := o0.out, used := o0.used } : lane_State).used } : lane_State))))) else (some ({ wide := o0.wide, epoch := o0.epoch, store := o0.store, locks := o0.locks, last := t771.2, book := o0.book, open_ := o0.open_, out := o0.out, used := o0.used } : lane_State)))).bind (lane_State_decide_j2 a2 a1))))
noncomputable def lane_State_decide_j4 (a2 : api_Command) (a1 : Int) (z1010 : (lane_State)) : Option (api_Effect × (Option lane_State)) :=
  (some (({ Kind := (4:Int), ID := a2.ID, R := ({ E := a2.R.E, Epoch := a2.Epoch, Index := a1, Gots := a2.R.Gots, Scans := a2.R.Scans } : api_Reply) } : api_Effect), (some z1010)))
noncomputable def lane_State_decide_j3 (o0 : lane_State) (a2 : api_Command) (a1 : Int) (_s : Unit) : Option (api_Effect × (Option lane_State)) :=
  ((session_Table_Put o0.last a2.ID.Session a2.ID.Seq ({ E := a2.R.E, Epoch := a2.Epoch, Index := a1, Gots := a2.R.Gots, Scans := a2.R.Scans } : api_Reply)).bind fun t929 => (bif (t929.1 != (0:Int)) then ((lane_State_late (some ({ wide := o0.wide, epoch := o0.epoch, store := o0.store, locks := o0.locks, last := t929.2, book := o0.book, open_ := o0.open_, out := o0.out, used := o0.used } : lane_State)) a2.ID).bind fun t935 => (some (t935, (some ({ wide := o0.wide, epoch := o0.epoch, store := o0.store, locks := o0.locks, last := t929.2, book := o0.book, open_ := o0.open_, out := o0.out, used := o0.used } : lane_State))))) else (((bif (a2.Shards != (0:Int)) then ((slices_Clone_api_Part_api_Part a2.Parts).bind fun t962 => ((lane_State_find (some ({ wide := o0.wide, epoch := o0.epoch, store := o0.store, locks := o0.locks, last := t929.2, book := o0.book, open_ := o0.open_, out := o0.out, used := o0.used } : lane_State)) a2.ID).bind fun t971 => ((slices_Insert_api_Decision_api_Decision (({ wide := o0.wide, epoch := o0.epoch, store := o0.store, locks := o0.locks, last := t929.2, book := o0.book, open_ := o0.open_, out := o0.out, used := o0.used } : lane_State).open_) t971.1 ([({ ID := a2.ID, E := a2.R.E, Epoch := a2.Epoch, Index := a1, Shards := a2.Shards, Parts := t962 } : api_Decision)])).bind fun t1001 => (some ({ wide := ({ wide := o0.wide, epoch := o0.epoch, store := o0.store, locks := o0.locks, last := t929.2, book := o0.book, open_ := o0.open_, out := o0.out, used := o0.used } : lane_State).wide, epoch := ({ wide := o0.wide, epoch := o0.epoch, store := o0.store, locks := o0.locks, last := t929.2, book := o0.book, open_ := o0.open_, out := o0.out, used := o0.used } : lane_State).epoch, store := ({ wide := o0.wide, epoch := o0.epoch, store := o0.store, locks := o0.locks, last := t929.2, book := o0.book, open_ := o0.open_, out := o0.out, used := o0.used } : lane_State).store, locks := ({ wide := o0.wide, epoch := o0.epoch, store := o0.store, locks := o0.locks, last := t929.2, book := o0.book, open_ := o0.open_, out := o0.out, used := o0.used } : lane_State).locks, last := ({ wide := o0.wide, epoch := o0.epoch, store := o0.store, locks := o0.locks, last := t929.2, book := o0.book, open_ := o0.open_, out := o0.out, used := o0.used } : lane_State).last, book := ({ wide := o0.wide, epoch := o0.epoch, store := o0.store, locks := o0.locks, last := t929.2, book := o0.book, open_ := o0.open_, out := o0.out, used := o0.used } : lane_State).book, open_ := t1001, out := ({ wide := o0.wide, epoch := o0.epoch, store := o0.store, locks := o0.locks, last := t929.2, book := o0.book, open_ := o0.open_, out := o0.out, used := o0.used } : lane_State).out, used := ({ wide := o0.wide, epoch := o0.epoch, store := o0.store, locks := o0.locks, last := t929.2, book := o0.book, open_ := o0.open_, out := o0.out, used := o0.used } : lane_State).used } : lane_State))))) else (some ({ wide := o0.wide, epoch := o0.epoch, store := o0.store, locks := o0.locks, last := t929.2, book := o0.book, open_ := o0.open_, out := o0.out, used := o0.used } : lane_State)))).bind (lane_State_decide_j4 a2 a1))))
noncomputable def lane_State_decide_j6 (a2 : api_Command) (a1 : Int) (z1119 : (lane_State)) : Option (api_Effect × (Option lane_State)) :=
  (some (({ Kind := (4:Int), ID := a2.ID, R := ({ E := a2.R.E, Epoch := a2.Epoch, Index := a1, Gots := a2.R.Gots, Scans := a2.R.Scans } : api_Reply) } : api_Effect), (some z1119)))
noncomputable def lane_State_decide_j5 (o0 : lane_State) (a2 : api_Command) (a1 : Int) (_s : Unit) : Option (api_Effect × (Option lane_State)) :=
  ((session_Table_Put o0.last a2.ID.Session a2.ID.Seq ({ E := a2.R.E, Epoch := a2.Epoch, Index := a1, Gots := a2.R.Gots, Scans := a2.R.Scans } : api_Reply)).bind fun t1049 => (bif (t1049.1 != (0:Int)) then ((lane_State_late (some ({ wide := o0.wide, epoch := o0.epoch, store := o0.store, locks := o0.locks, last := t1049.2, book := o0.book, open_ := o0.open_, out := o0.out, used := o0.used } : lane_State)) a2.ID).bind fun t1055 => (some (t1055, (some ({ wide := o0.wide, epoch := o0.epoch, store := o0.store, locks := o0.locks, last := t1049.2, book := o0.book, open_ := o0.open_, out := o0.out, used := o0.used } : lane_State))))) else (((bif (a2.Shards != (0:Int)) then ((lane_State_find (some ({ wide := o0.wide, epoch := o0.epoch, store := o0.store, locks := o0.locks, last := t1049.2, book := o0.book, open_ := o0.open_, out := o0.out, used := o0.used } : lane_State)) a2.ID).bind fun t1082 => ((slices_Insert_api_Decision_api_Decision (({ wide := o0.wide, epoch := o0.epoch, store := o0.store, locks := o0.locks, last := t1049.2, book := o0.book, open_ := o0.open_, out := o0.out, used := o0.used } : lane_State).open_) t1082.1 ([({ ID := a2.ID, E := a2.R.E, Epoch := a2.Epoch, Index := a1, Shards := a2.Shards, Parts := [] } : api_Decision)])).bind fun t1110 => (some ({ wide := ({ wide := o0.wide, epoch := o0.epoch, store := o0.store, locks := o0.locks, last := t1049.2, book := o0.book, open_ := o0.open_, out := o0.out, used := o0.used } : lane_State).wide, epoch := ({ wide := o0.wide, epoch := o0.epoch, store := o0.store, locks := o0.locks, last := t1049.2, book := o0.book, open_ := o0.open_, out := o0.out, used := o0.used } : lane_State).epoch, store := ({ wide := o0.wide, epoch := o0.epoch, store := o0.store, locks := o0.locks, last := t1049.2, book := o0.book, open_ := o0.open_, out := o0.out, used := o0.used } : lane_State).store, locks := ({ wide := o0.wide, epoch := o0.epoch, store := o0.store, locks := o0.locks, last := t1049.2, book := o0.book, open_ := o0.open_, out := o0.out, used := o0.used } : lane_State).locks, last := ({ wide := o0.wide, epoch := o0.epoch, store := o0.store, locks := o0.locks, last := t1049.2, book := o0.book, open_ := o0.open_, out := o0.out, used := o0.used } : lane_State).last, book := ({ wide := o0.wide, epoch := o0.epoch, store := o0.store, locks := o0.locks, last := t1049.2, book := o0.book, open_ := o0.open_, out := o0.out, used := o0.used } : lane_State).book, open_ := t1110, out := ({ wide := o0.wide, epoch := o0.epoch, store := o0.store, locks := o0.locks, last := t1049.2, book := o0.book, open_ := o0.open_, out := o0.out, used := o0.used } : lane_State).out, used := ({ wide := o0.wide, epoch := o0.epoch, store := o0.store, locks := o0.locks, last := t1049.2, book := o0.book, open_ := o0.open_, out := o0.out, used := o0.used } : lane_State).used } : lane_State)))) else (some ({ wide := o0.wide, epoch := o0.epoch, store := o0.store, locks := o0.locks, last := t1049.2, book := o0.book, open_ := o0.open_, out := o0.out, used := o0.used } : lane_State)))).bind (lane_State_decide_j6 a2 a1))))
noncomputable def lane_State_decide (a0 : (Option lane_State)) (a1 : Int) (a2 : api_Command) : Option (api_Effect × (Option lane_State)) :=
  (match a0 with | none => (bif (a2.R.E == (0:Int)) then none else (joinO (bif (a2.R.E != (0:Int)) then (bif (decide (a2.ID.Session ≥ (9223372036854775808:Int))) then (inrO (some (zero_api_Effect, none))) else (some (Sum.inl ()))) else (some (Sum.inl ()))) (lane_State_decide_j0))) | some o0 => (bif (a2.R.E == (0:Int)) then (bif (a2.Epoch != o0.epoch) then (joinO (bif ((9:Int) != (0:Int)) then (bif (decide (a2.ID.Session ≥ (9223372036854775808:Int))) then (inrO (some (zero_api_Effect, (some o0)))) else (some (Sum.inl ()))) else (some (Sum.inl ()))) (lane_State_decide_j1 o0 a2 a1)) else (joinO (bif (a2.R.E != (0:Int)) then (bif (decide (a2.ID.Session ≥ (9223372036854775808:Int))) then (inrO (some (zero_api_Effect, (some o0)))) else (some (Sum.inl ()))) else (some (Sum.inl ()))) (lane_State_decide_j3 o0 a2 a1))) else (joinO (bif (a2.R.E != (0:Int)) then (bif (decide (a2.ID.Session ≥ (9223372036854775808:Int))) then (inrO (some (zero_api_Effect, (some o0)))) else (some (Sum.inl ()))) else (some (Sum.inl ()))) (lane_State_decide_j5 o0 a2 a1))))

noncomputable def slices_Delete_api_Decision_api_Decision (a0 : (List api_Decision)) (a1 a2 : Int) : Option ((List api_Decision)) :=
  gd (fits a0 a1 a2) (some (del a0 a1 a2))

noncomputable def policy_Book_Revoke_l0 (o0 : policy_Book) (a1 : Int) (a2 : Int) (s : (policy_Book × Int × Bool)) : Option ((policy_Book × Int × Bool) ⊕ (Bool × (Option policy_Book))) :=
  match s with | (z394, z395, z396) => (bif (decide (z395 < ((o0.l).length : Int))) then ((geto z394.l z395).bind fun x410 => (bif (x410.r.ID == a1) then (bif (x410.to_ == (0:Int)) then (some (Sum.inl (({ l := (z394.l.set z395.toNat ({ r := x410.r, from_ := x410.from_, to_ := (if (1:Int) > a2 then (1:Int) else a2) } : policy_line)) } : policy_Book), (IntKind.i64.wrap (z395 + (1:Int))), true))) else (some (Sum.inl (z394, (IntKind.i64.wrap (z395 + (1:Int))), z396)))) else (some (Sum.inl (z394, (IntKind.i64.wrap (z395 + (1:Int))), z396))))) else (inrO (some (z396, (some z394)))))
noncomputable def policy_Book_Revoke (a0 : (Option policy_Book)) (a1 : Int) (a2 : Int) : Option (Bool × (Option policy_Book)) :=
  (match a0 with | none => (some (false, none)) | some o0 => (loopO (policy_Book_Revoke_l0 o0 a1 a2) (o0, (0:Int), false)))

noncomputable def policy_Book_Grant (a0 : (Option policy_Book)) (a1 : api_Rule) (a2 : Int) : Option ((Option policy_Book)) :=
  (match a0 with | none => (some none) | some o0 => ((policy_Book_Revoke (some o0) a1.ID a2).bind fun t326 => (match t326.2 with | none => none | some y331 => (gd (room y331.l ([({ r := a1, from_ := a2, to_ := (0:Int) } : policy_line)])) (some (some ({ l := (y331.l ++ ([({ r := a1, from_ := a2, to_ := (0:Int) } : policy_line)])) } : policy_Book)))))))

noncomputable def lane_State_give_1 (a0 : lane_used) (a1 : Int) : Option (Int) :=
  ((cmp_Compare_uint64 a0.rule a1).bind fun t385 => (some t385))

noncomputable def slices_Insert_lane_used_lane_used (a0 : (List lane_used)) (a1 : Int) (a2 : (List lane_used)) : Option ((List lane_used)) :=
  gd (insOK a0 a1 a2) (some (ins a0 a1 a2))

noncomputable def lane_Pad_j0 (a0 : api_Write) (z621 : ((List Int))) : Option (api_Write) :=
  (some ({ At := a0.At, Del := a0.Del, Val := z621 } : api_Write))
noncomputable def lane_Pad (a0 : api_Write) (a1 : Int) : Option (api_Write) :=
  (gd (mkOK (if (0:Int) > a1 then (0:Int) else a1) (if (0:Int) > a1 then (0:Int) else a1)) (((bif a0.Del then (some ([])) else (some (cpy (List.replicate (Int.toNat (if (0:Int) > a1 then (0:Int) else a1)) (0:Int)) a0.Val)))).bind (lane_Pad_j0 a0)))

noncomputable def lane_State_give_l1 (o0 : lane_State) (a2 : api_Command) (s : (Int × Int)) : Option ((Int × Int) ⊕ (Int)) :=
  match s with | (z862, z863) => (bif (decide (z863 < z862)) then ((geto o0.used (IntKind.i64.wrap (iShr .u64 (IntKind.u64.wrap (IntKind.i64.wrap (z863 + z862))) (1:Int)))).bind fun x873 => ((lane_State_give_1 x873 a2.Rule.ID).bind fun t878 => (bif (decide (t878 < (0:Int))) then (some (Sum.inl (z862, (IntKind.i64.wrap ((IntKind.i64.wrap (iShr .u64 (IntKind.u64.wrap (IntKind.i64.wrap (z863 + z862))) (1:Int))) + (1:Int)))))) else (some (Sum.inl ((IntKind.i64.wrap (iShr .u64 (IntKind.u64.wrap (IntKind.i64.wrap (z863 + z862))) (1:Int))), z863)))))) else (inrO (some z863)))
noncomputable def lane_State_give_j0 (o0 : lane_State) (a2 : api_Command) (z884 : (Int)) : Option (Int × Bool) :=
  (bif (decide (z884 < ((o0.used).length : Int))) then ((geto o0.used z884).bind fun x891 => ((lane_State_give_1 x891 a2.Rule.ID).bind fun t896 => (some (z884, (t896 == (0:Int)))))) else (some (z884, false)))
noncomputable def lane_State_give_l6 (z1009 : lane_State) (a2 : api_Command) (s : (Int × (List api_Item))) : Option ((Int × (List api_Item)) ⊕ ((List api_Item))) :=
  match s with | (z1157, z1158) => (bif (decide (z1157 < ((z1009.out).length : Int))) then ((geto z1009.out z1157).bind fun x1170 => (bif (x1170.To == a2.Rule.To) then (gd (room z1158 ([x1170])) (some (Sum.inl ((IntKind.i64.wrap (z1157 + (1:Int))), (z1158 ++ ([x1170])))))) else (some (Sum.inl ((IntKind.i64.wrap (z1157 + (1:Int))), z1158))))) else (inrO (some z1158)))
noncomputable def lane_State_give_j5 (z901 : Int) (a2 : api_Command) (z914 : Int) (z1009 : (lane_State)) : Option (lane_State) :=
  ((geto z1009.used z901).bind fun x1031 => ((geto a2.Writes (0:Int)).bind fun x1044 => ((loopO (lane_State_give_l6 z1009 a2) ((0:Int), [])).bind fun z1203 => ((lane_Pad x1044 z1009.wide).bind fun t1208 => (gd (room z1009.out ([({ To := a2.Rule.To, N := (IntKind.u64.wrap (IntKind.i64.wrap (((z1203).length : Int) + (1:Int)))), Rule := a2.Rule.ID, Epoch := a2.Epoch, W := t1208 } : api_Item)])) (some ({ wide := z1009.wide, epoch := z1009.epoch, store := z1009.store, locks := z1009.locks, last := z1009.last, book := z1009.book, open_ := z1009.open_, out := (z1009.out ++ ([({ To := a2.Rule.To, N := (IntKind.u64.wrap (IntKind.i64.wrap (((z1203).length : Int) + (1:Int)))), Rule := a2.Rule.ID, Epoch := a2.Epoch, W := t1208 } : api_Item)])), used := ((z1009.used.set z901.toNat ({ rule := x1031.rule, epoch := a2.Epoch, n := x1031.n } : lane_used)).set z901.toNat ({ rule := ({ rule := x1031.rule, epoch := a2.Epoch, n := x1031.n } : lane_used).rule, epoch := ({ rule := x1031.rule, epoch := a2.Epoch, n := x1031.n } : lane_used).epoch, n := (IntKind.i64.wrap (z914 + (1:Int))) } : lane_used)) } : lane_State)))))))
noncomputable def lane_State_give_j4 (a2 : api_Command) (z946 : Int) (a1 : Int) (z1232 : (lane_State)) : Option (api_Effect × (Option lane_State)) :=
  (some (({ Kind := (4:Int), ID := a2.ID, R := ({ E := z946, Epoch := a2.Epoch, Index := a1, Gots := [], Scans := [] } : api_Reply) } : api_Effect), (some z1232)))
noncomputable def lane_State_give_j3 (o0 : lane_State) (a2 : api_Command) (a1 : Int) (z902 : Bool) (z901 : Int) (z914 : Int) (z946 : (Int)) : Option (api_Effect × (Option lane_State)) :=
  ((session_Table_Put o0.last a2.ID.Session a2.ID.Seq ({ E := z946, Epoch := a2.Epoch, Index := a1, Gots := [], Scans := [] } : api_Reply)).bind fun t970 => (bif (t970.1 != (0:Int)) then ((lane_State_late (some ({ wide := o0.wide, epoch := o0.epoch, store := o0.store, locks := o0.locks, last := t970.2, book := o0.book, open_ := o0.open_, out := o0.out, used := o0.used } : lane_State)) a2.ID).bind fun t976 => (some (t976, (some ({ wide := o0.wide, epoch := o0.epoch, store := o0.store, locks := o0.locks, last := t970.2, book := o0.book, open_ := o0.open_, out := o0.out, used := o0.used } : lane_State))))) else (((bif (z946 == (0:Int)) then (((bif (!z902) then ((slices_Insert_lane_used_lane_used o0.used z901 ([({ rule := a2.Rule.ID, epoch := (0:Int), n := (0:Int) } : lane_used)])).bind fun t1000 => (some ({ wide := o0.wide, epoch := o0.epoch, store := o0.store, locks := o0.locks, last := t970.2, book := o0.book, open_ := o0.open_, out := o0.out, used := t1000 } : lane_State))) else (some ({ wide := o0.wide, epoch := o0.epoch, store := o0.store, locks := o0.locks, last := t970.2, book := o0.book, open_ := o0.open_, out := o0.out, used := o0.used } : lane_State)))).bind (lane_State_give_j5 z901 a2 z914)) else (some ({ wide := o0.wide, epoch := o0.epoch, store := o0.store, locks := o0.locks, last := t970.2, book := o0.book, open_ := o0.open_, out := o0.out, used := o0.used } : lane_State)))).bind (lane_State_give_j4 a2 z946 a1))))
noncomputable def lane_State_give_j2 (a2 : api_Command) (o0 : lane_State) (a1 : Int) (z902 : Bool) (z901 : Int) (z914 : (Int)) : Option (api_Effect × (Option lane_State)) :=
  (((bif (a2.R.E != (0:Int)) then (some a2.R.E) else (bif (a2.Epoch != o0.epoch) then (some (9:Int)) else (bif (((a2.Writes).length : Int) != (1:Int)) then (some (1:Int)) else (bif (decide (z914 ≥ a2.Rule.Quota)) then (some (13:Int)) else (some a2.R.E)))))).bind (lane_State_give_j3 o0 a2 a1 z902 z901 z914))
noncomputable def lane_State_give (a0 : (Option lane_State)) (a1 : Int) (a2 : api_Command) : Option (api_Effect × (Option lane_State)) :=
  (match a0 with | none => none | some o0 => ((((loopO (lane_State_give_l1 o0 a2) (((o0.used).length : Int), (0:Int)))).bind (lane_State_give_j0 o0 a2)).bind fun (z901, z902) => (((bif z902 then ((geto o0.used z901).bind fun x908 => (bif (x908.epoch == a2.Epoch) then (some x908.n) else (some (0:Int)))) else (some (0:Int)))).bind (lane_State_give_j2 a2 o0 a1 z902 z901))))

noncomputable def lane_State_Apply (a0 : (Option lane_State)) (a1 : Int) (a2 : api_Command) : Option (api_Effect × (Option lane_State)) :=
  (match a0 with | none => (some (zero_api_Effect, none)) | some o0 => (bif (a2.Kind == (1:Int)) then ((lane_State_shut (some o0) a2).bind fun t368 => (match t368.2 with | none => none | some y377 => (some (t368.1, (some y377))))) else (bif (a2.Kind == (2:Int)) then ((lane_State_prepare (some o0) a2).bind fun t388 => (match t388.2 with | none => none | some y397 => (some (t388.1, (some y397))))) else (bif (a2.Kind == (3:Int)) then ((lane_State_finish (some o0) a2).bind fun t408 => (match t408.2 with | none => none | some y417 => (some (t408.1, (some y417))))) else (bif (a2.Kind == (4:Int)) then ((lane_State_decide (some o0) a1 a2).bind fun t428 => (match t428.2 with | none => none | some y439 => (some (t428.1, (some y439))))) else (bif (a2.Kind == (5:Int)) then ((lane_State_find (some o0) a2.ID).bind fun t444 => (bif t444.2 then ((slices_Delete_api_Decision_api_Decision o0.open_ t444.1 (IntKind.i64.wrap (t444.1 + (1:Int)))).bind fun t466 => (some (zero_api_Effect, (some ({ wide := o0.wide, epoch := o0.epoch, store := o0.store, locks := o0.locks, last := o0.last, book := o0.book, open_ := t466, out := o0.out, used := o0.used } : lane_State))))) else (some (zero_api_Effect, (some o0))))) else (bif (a2.Kind == (6:Int)) then (bif a2.On then ((policy_Book_Grant o0.book a2.Rule o0.epoch).bind fun t489 => (some (zero_api_Effect, (some ({ wide := o0.wide, epoch := o0.epoch, store := o0.store, locks := o0.locks, last := o0.last, book := t489, open_ := o0.open_, out := o0.out, used := o0.used } : lane_State))))) else ((policy_Book_Revoke o0.book a2.Rule.ID o0.epoch).bind fun t500 => (some (zero_api_Effect, (some ({ wide := o0.wide, epoch := o0.epoch, store := o0.store, locks := o0.locks, last := o0.last, book := t500.2, open_ := o0.open_, out := o0.out, used := o0.used } : lane_State)))))) else (bif (a2.Kind == (7:Int)) then ((lane_State_give (some o0) a1 a2).bind fun t512 => (match t512.2 with | none => none | some y523 => (some (t512.1, (some y523))))) else (some (zero_api_Effect, (some o0)))))))))))

noncomputable def lane_State_Epoch (a0 : (Option lane_State)) : Option (Int) :=
  (match a0 with | none => (some (0:Int)) | some o0 => (some o0.epoch))

noncomputable def law16_awake : Option (Bool) :=
  ((lane_New (4:Int)).bind fun t196 => ((lane_State_Apply (some t196) (1:Int) ({ Kind := (1:Int), ID := ({ Session := (0:Int), Seq := (0:Int) } : api_ID), Epoch := (1:Int), Index := (0:Int), E := (0:Int), Hold := zero_api_Hold, Writes := [], R := zero_api_Reply, Shards := (0:Int), Parts := [], Rule := zero_api_Rule, On := false } : api_Command)).bind fun t219 => (match t219.2 with | none => none | some y230 => (bif (t219.1.Kind == (1:Int)) then ((lane_State_Epoch (some y230)).bind fun t242 => (bif (t242 == (2:Int)) then (some true) else (some false))) else (some false)))))

noncomputable def lane_State_Now (a0 : (Option lane_State)) (a1 : Nat) : Option (api_Got) :=
  (match a0 with | none => (some ({ Has := false, Val := [] } : api_Got)) | some o0 => ((mvcc_Store_Get o0.store a1 (18446744073709551615:Int)).bind fun t234 => (some t234)))

noncomputable def law16_LaneHolds_j1 (y263 : lane_State) (t222 : (Int × (Option lane_State))) (t234 : (Int × (Option lane_State))) (z271 : Int) (t258 : (Int × (Option lane_State))) (a1 : Nat) (a0 : Nat) (z278 : (Int)) : Option (Bool) :=
  ((lane_State_Apply (some y263) (5:Int) ({ Kind := (3:Int), ID := ({ Session := (1:Int), Seq := (1:Int) } : api_ID), Epoch := (0:Int), Index := (0:Int), E := (8:Int), Hold := zero_api_Hold, Writes := [], R := zero_api_Reply, Shards := (0:Int), Parts := [], Rule := zero_api_Rule, On := false } : api_Command)).bind fun t300 => (match t300.2 with | none => none | some y311 => (law16_awake.bind fun t313 => (bif t313 then (bif (t222.1 == (0:Int)) then (bif (t234.1 == z271) then (bif (t258.1 == z278) then ((lane_State_Hold (some y311) ({ ID := ({ Session := (2:Int), Seq := (1:Int) } : api_ID), Epoch := (1:Int), Gets := [a1], Scans := [], Puts := [], Data := [] } : api_Hold)).bind fun t324 => (match t324.2 with | none => none | some y329 => (bif (t324.1 == (0:Int)) then ((lane_State_Now (some y329) a0).bind fun t332 => (some (!t332.Has))) else (some false)))) else (some false)) else (some false)) else (some false)) else (some false)))))
noncomputable def law16_LaneHolds_j0 (a2 : Int) (y263 : lane_State) (t222 : (Int × (Option lane_State))) (t234 : (Int × (Option lane_State))) (t258 : (Int × (Option lane_State))) (a1 : Nat) (a0 : Nat) (z271 : (Int)) : Option (Bool) :=
  (((bif (a2 != (1:Int)) then (some (9:Int)) else (some z271))).bind (law16_LaneHolds_j1 y263 t222 t234 z271 t258 a1 a0))
noncomputable def law16_LaneHolds (a0 : Nat) (a1 : Nat) (a2 : Int) : Option (Bool) :=
  ((lane_New (0:Int)).bind fun t170 => ((lane_State_Hold (some t170) ({ ID := ({ Session := (1:Int), Seq := (1:Int) } : api_ID), Epoch := (1:Int), Gets := [], Scans := [], Puts := [a0], Data := [] } : api_Hold)).bind fun t222 => (match t222.2 with | none => none | some y227 => ((lane_State_Hold (some y227) ({ ID := ({ Session := (2:Int), Seq := (1:Int) } : api_ID), Epoch := (1:Int), Gets := [a1], Scans := [], Puts := [], Data := [] } : api_Hold)).bind fun t234 => (match t234.2 with | none => none | some y239 => ((lane_State_Hold (some y239) ({ ID := ({ Session := (3:Int), Seq := (1:Int) } : api_ID), Epoch := a2, Gets := [a1], Scans := [], Puts := [], Data := [] } : api_Hold)).bind fun t258 => (match t258.2 with | none => none | some y263 => ((((ref01_Same a0 a1).bind fun t265 => (bif t265 then (some (8:Int)) else (some (0:Int))))).bind (law16_LaneHolds_j0 a2 y263 t222 t234 t258 a1 a0)))))))))

noncomputable def octet_Read (a0 : (List Int)) : Option (octet_Reader) :=
  (some ({ p := a0, bad := false } : octet_Reader))

noncomputable def ref12_Tape_Next (a0 : ref12_Tape) (a1 : Int) : Option (Int × ref12_Tape) :=
  (bif (decide (a0.I ≥ ((a0.L).length : Int))) then (some ((0:Int), a0)) else ((geto a0.L (IntKind.i64.wrap ((IntKind.i64.wrap (a0.I + (1:Int))) - (1:Int)))).bind fun x23 => (gd (!(a1 == (0:Int))) (some ((Int.tmod (IntKind.i64.wrap x23) a1), ({ L := a0.L, I := (IntKind.i64.wrap (a0.I + (1:Int))) } : ref12_Tape))))))
end Go.Proofs.YtgnkkopjkgdieaaGreat
