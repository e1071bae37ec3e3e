/- The models of the Go functions: plain Lean, no memory. -/
import Derived.Test.YtijcfglomdfglaaGvMake
set_option linter.unusedVariables false
set_option linter.unusedSimpArgs false
set_option maxRecDepth 100000
set_option maxHeartbeats 4000000
namespace Go.Proofs.Ytijcfglomdfglaa
open Go Go.V
structure api_ID where
  Session : Int
  Seq : Int

structure api_Hold where
  ID : api_ID
  Epoch : Int
  Gets : (List Nat)
  Scans : (List (Nat × Nat))
  Puts : (List Nat)
  Data : (List Int)

structure api_Write where
  At : Nat
  Del : Bool
  Val : (List Int)

structure api_Got where
  Has : Bool
  Val : (List Int)

structure api_Pair where
  At : Nat
  Val : (List Int)

structure api_Reply where
  E : Int
  Epoch : Int
  Index : Int
  Gots : (List api_Got)
  Scans : (List (List api_Pair))

structure api_Part where
  Shard : Int
  Writes : (List api_Write)

structure api_Rule where
  ID : Int
  From : Int
  To : Int
  Lo : Nat
  Hi : Nat
  Authority : Int
  Quota : Int

structure api_Command where
  Kind : Int
  ID : api_ID
  Epoch : Int
  Index : Int
  E : Int
  Hold : api_Hold
  Writes : (List api_Write)
  R : api_Reply
  Shards : Int
  Parts : (List api_Part)
  Rule : api_Rule
  On : Bool

structure octet_Writer where
  p : (List Int)

structure ref12_Tape where
  L : (List Int)
  I : Int

structure octet_Reader where
  p : (List Int)
  bad : Bool

noncomputable def octet_Writer_lay (a0 : octet_Writer) (a1 : (List Int)) : Option (octet_Writer) :=
  (gd (room a0.p a1) (some ({ p := (a0.p ++ a1) } : octet_Writer)))

noncomputable def octet_Writer_Num_l0 (a2 : Int) (a1 : Int) (s : (octet_Writer × Int)) : Option ((octet_Writer × Int) ⊕ (octet_Writer)) :=
  match s with | (z124, z125) => (bif (decide (z125 < a2)) then (gd (decide ((0:Int) ≤ (IntKind.i64.wrap ((8:Int) * z125)))) ((octet_Writer_lay z124 ([(IntKind.u8.wrap (iShr .u64 a1 (IntKind.i64.wrap ((8:Int) * z125))))])).bind fun t143 => (some (Sum.inl (t143, (IntKind.i64.wrap (z125 + (1:Int)))))))) else (inrO (some z124)))
noncomputable def octet_Writer_Num (a0 : octet_Writer) (a1 : Int) (a2 : Int) : Option (octet_Writer) :=
  (loopO (octet_Writer_Num_l0 a2 a1) (a0, (0:Int)))

noncomputable def octet_Writer_Done (a0 : octet_Writer) : Option ((List Int)) :=
  (some a0.p)

noncomputable def math_IsNaN (a0 : Nat) : Option (Bool) :=
  (some (fNe a0 a0))

noncomputable def number_Rank (a0 : Nat) : Option (Int) :=
  ((math_IsNaN a0).bind fun t100 => (bif t100 then (some (18446744073709551615:Int)) else (bif ((iShr .u64 (Int.ofNat a0) (63:Int)) == (1:Int)) then (some (bXor .u64 ((18446744073709551615):Int) (Int.ofNat a0))) else (some (bOr .u64 (Int.ofNat a0) (9223372036854775808:Int))))))

noncomputable def octet_Writer_Bytes (a0 : octet_Writer) (a1 : (List Int)) : Option (octet_Writer) :=
  ((octet_Writer_Num a0 (IntKind.u64.wrap ((a1).length : Int)) (4:Int)).bind fun t360 => ((octet_Writer_lay t360 a1).bind fun t365 => (some t365)))

noncomputable def locks_Lay_l1 (a1 : api_Hold) (s : (octet_Writer × Int)) : Option ((octet_Writer × Int) ⊕ (octet_Writer)) :=
  match s with | (z415, z416) => (bif (decide (z416 < ((a1.Gets).length : Int))) then ((geto a1.Gets z416).bind fun x426 => ((number_Rank x426).bind fun t431 => ((octet_Writer_Num z415 t431 (8:Int)).bind fun t436 => (some (Sum.inl (t436, (IntKind.i64.wrap (z416 + (1:Int))))))))) else (inrO (some z415)))
noncomputable def locks_Lay_l3 (a1 : api_Hold) (s : (octet_Writer × Int)) : Option ((octet_Writer × Int) ⊕ (octet_Writer)) :=
  match s with | (z520, z521) => (bif (decide (z521 < ((a1.Scans).length : Int))) then ((geto a1.Scans z521).bind fun x531 => ((number_Rank x531.1).bind fun t543 => ((octet_Writer_Num z520 t543 (8:Int)).bind fun t548 => ((number_Rank x531.2).bind fun t553 => ((octet_Writer_Num t548 t553 (8:Int)).bind fun t558 => (some (Sum.inl (t558, (IntKind.i64.wrap (z521 + (1:Int))))))))))) else (inrO (some z520)))
noncomputable def locks_Lay_l5 (a1 : api_Hold) (s : (octet_Writer × Int)) : Option ((octet_Writer × Int) ⊕ (octet_Writer)) :=
  match s with | (z608, z609) => (bif (decide (z609 < ((a1.Puts).length : Int))) then ((geto a1.Puts z609).bind fun x619 => ((number_Rank x619).bind fun t624 => ((octet_Writer_Num z608 t624 (8:Int)).bind fun t629 => (some (Sum.inl (t629, (IntKind.i64.wrap (z609 + (1:Int))))))))) else (inrO (some z608)))
noncomputable def locks_Lay_j4 (a1 : api_Hold) (z634 : (octet_Writer)) : Option (octet_Writer) :=
  ((octet_Writer_Bytes z634 a1.Data).bind fun t640 => (some t640))
noncomputable def locks_Lay_j2 (a1 : api_Hold) (z563 : (octet_Writer)) : Option (octet_Writer) :=
  ((octet_Writer_Num z563 (IntKind.u64.wrap ((a1.Puts).length : Int)) (4:Int)).bind fun t569 => (((loopO (locks_Lay_l5 a1) (t569, (0:Int)))).bind (locks_Lay_j4 a1)))
noncomputable def locks_Lay_j0 (a1 : api_Hold) (z441 : (octet_Writer)) : Option (octet_Writer) :=
  ((octet_Writer_Num z441 (IntKind.u64.wrap ((a1.Scans).length : Int)) (4:Int)).bind fun t447 => (((loopO (locks_Lay_l3 a1) (t447, (0:Int)))).bind (locks_Lay_j2 a1)))
noncomputable def locks_Lay (a0 : octet_Writer) (a1 : api_Hold) : Option (octet_Writer) :=
  ((octet_Writer_Num a0 a1.ID.Session (8:Int)).bind fun t361 => ((octet_Writer_Num t361 a1.ID.Seq (8:Int)).bind fun t366 => ((octet_Writer_Num t366 a1.Epoch (8:Int)).bind fun t371 => ((octet_Writer_Num t371 (IntKind.u64.wrap ((a1.Gets).length : Int)) (4:Int)).bind fun t376 => (((loopO (locks_Lay_l1 a1) (t376, (0:Int)))).bind (locks_Lay_j0 a1))))))

noncomputable def octet_Writer_Flag (a0 : octet_Writer) (a1 : Bool) : Option (octet_Writer) :=
  (bif a1 then ((octet_Writer_Num a0 (1:Int) (1:Int)).bind fun t141 => (some t141)) else ((octet_Writer_Num a0 (0:Int) (1:Int)).bind fun t146 => (some t146)))

noncomputable def command_writes_l0 (a1 : (List api_Write)) (s : (octet_Writer × Int)) : Option ((octet_Writer × Int) ⊕ (octet_Writer)) :=
  match s with | (z328, z329) => (bif (decide (z329 < ((a1).length : Int))) then ((geto a1 z329).bind fun x339 => ((number_Rank x339.At).bind fun t358 => ((octet_Writer_Num z328 t358 (8:Int)).bind fun t363 => ((octet_Writer_Flag t363 x339.Del).bind fun t368 => ((octet_Writer_Bytes t368 x339.Val).bind fun t373 => (some (Sum.inl (t373, (IntKind.i64.wrap (z329 + (1:Int))))))))))) else (inrO (some z328)))
noncomputable def command_writes (a0 : octet_Writer) (a1 : (List api_Write)) : Option (octet_Writer) :=
  ((octet_Writer_Num a0 (IntKind.u64.wrap ((a1).length : Int)) (4:Int)).bind fun t241 => (loopO (command_writes_l0 a1) (t241, (0:Int))))

noncomputable def command_LayReply_l1 (a1 : api_Reply) (s : (octet_Writer × Int)) : Option ((octet_Writer × Int) ⊕ (octet_Writer)) :=
  match s with | (z896, z897) => (bif (decide (z897 < ((a1.Gots).length : Int))) then ((geto a1.Gots z897).bind fun x907 => ((octet_Writer_Flag z896 x907.Has).bind fun t926 => ((octet_Writer_Bytes t926 x907.Val).bind fun t931 => (some (Sum.inl (t931, (IntKind.i64.wrap (z897 + (1:Int))))))))) else (inrO (some z896)))
noncomputable def command_LayReply_l3 (x1228 : (List api_Pair)) (z1218 : Int) (s : (octet_Writer × Int)) : Option ((octet_Writer × Int) ⊕ ((octet_Writer × Int) ⊕ (octet_Writer))) :=
  match s with | (z1316, z1317) => (bif (decide (z1317 < ((x1228).length : Int))) then ((geto x1228 z1317).bind fun x1327 => ((number_Rank x1327.At).bind fun t1346 => ((octet_Writer_Num z1316 t1346 (8:Int)).bind fun t1351 => ((octet_Writer_Bytes t1351 x1327.Val).bind fun t1356 => (some (Sum.inl (t1356, (IntKind.i64.wrap (z1317 + (1:Int)))))))))) else (inrO (some (Sum.inl (z1316, (IntKind.i64.wrap (z1218 + (1:Int))))))))
noncomputable def command_LayReply_l2 (a1 : api_Reply) (s : (octet_Writer × Int)) : Option ((octet_Writer × Int) ⊕ (octet_Writer)) :=
  match s with | (z1217, z1218) => (bif (decide (z1218 < ((a1.Scans).length : Int))) then ((geto a1.Scans z1218).bind fun x1228 => ((octet_Writer_Num z1217 (IntKind.u64.wrap ((x1228).length : Int)) (4:Int)).bind fun t1239 => (loopO (command_LayReply_l3 x1228 z1218) (t1239, (0:Int))))) else (inrO (some z1217)))
noncomputable def command_LayReply_j0 (a1 : api_Reply) (z936 : (octet_Writer)) : Option (octet_Writer) :=
  ((octet_Writer_Num z936 (IntKind.u64.wrap ((a1.Scans).length : Int)) (4:Int)).bind fun t942 => (loopO (command_LayReply_l2 a1) (t942, (0:Int))))
noncomputable def command_LayReply (a0 : octet_Writer) (a1 : api_Reply) : Option (octet_Writer) :=
  ((octet_Writer_Num a0 (IntKind.u64.wrap a1.E) (1:Int)).bind fun t814 => ((octet_Writer_Num t814 a1.Epoch (8:Int)).bind fun t819 => ((octet_Writer_Num t819 a1.Index (8:Int)).bind fun t824 => ((octet_Writer_Num t824 (IntKind.u64.wrap ((a1.Gots).length : Int)) (4:Int)).bind fun t829 => (((loopO (command_LayReply_l1 a1) (t829, (0:Int)))).bind (command_LayReply_j0 a1))))))

noncomputable def command_layRule (a0 : octet_Writer) (a1 : api_Rule) : Option (octet_Writer) :=
  ((octet_Writer_Num a0 a1.ID (8:Int)).bind fun t344 => ((octet_Writer_Num t344 (IntKind.u64.wrap a1.From) (1:Int)).bind fun t349 => ((octet_Writer_Num t349 (IntKind.u64.wrap a1.To) (1:Int)).bind fun t354 => ((number_Rank a1.Lo).bind fun t359 => ((octet_Writer_Num t354 t359 (8:Int)).bind fun t364 => ((number_Rank a1.Hi).bind fun t369 => ((octet_Writer_Num t364 t369 (8:Int)).bind fun t374 => ((octet_Writer_Num t374 a1.Authority (8:Int)).bind fun t379 => ((octet_Writer_Num t379 (IntKind.u64.wrap a1.Quota) (4:Int)).bind fun t384 => (some t384))))))))))

noncomputable def command_Encode_l1 (a0 : api_Command) (s : (octet_Writer × Int)) : Option ((octet_Writer × Int) ⊕ (octet_Writer)) :=
  match s with | (z549, z550) => (bif (decide (z550 < ((a0.Parts).length : Int))) then ((geto a0.Parts z550).bind fun x560 => ((octet_Writer_Num z549 (IntKind.u64.wrap x560.Shard) (1:Int)).bind fun t579 => ((command_writes t579 x560.Writes).bind fun t584 => (some (Sum.inl (t584, (IntKind.i64.wrap (z550 + (1:Int))))))))) else (inrO (some z549)))
noncomputable def command_Encode_j0 (a0 : api_Command) (z589 : (octet_Writer)) : Option ((List Int)) :=
  ((command_LayReply z589 a0.R).bind fun t595 => ((octet_Writer_Done t595).bind fun t600 => (some t600)))
noncomputable def command_Encode (a0 : api_Command) : Option ((List Int)) :=
  ((octet_Writer_Num ({ p := [] } : octet_Writer) (IntKind.u64.wrap a0.Kind) (1:Int)).bind fun t382 => (bif (a0.Kind == (1:Int)) then ((octet_Writer_Num t382 a0.Epoch (8:Int)).bind fun t388 => ((octet_Writer_Done t388).bind fun t393 => (some t393))) else (bif (a0.Kind == (2:Int)) then ((locks_Lay t382 a0.Hold).bind fun t401 => ((octet_Writer_Done t401).bind fun t406 => (some t406))) else (bif (a0.Kind == (3:Int)) then (((octet_Writer_Num t382 a0.ID.Session (8:Int)).bind fun t414 => ((octet_Writer_Num t414 a0.ID.Seq (8:Int)).bind fun t419 => (some t419))).bind fun z424 => ((octet_Writer_Num z424 (IntKind.u64.wrap a0.E) (1:Int)).bind fun t429 => ((octet_Writer_Num t429 a0.Epoch (8:Int)).bind fun t434 => ((octet_Writer_Num t434 a0.Index (8:Int)).bind fun t439 => ((command_writes t439 a0.Writes).bind fun t444 => ((octet_Writer_Done t444).bind fun t449 => (some t449))))))) else (bif (a0.Kind == (4:Int)) then (((octet_Writer_Num t382 a0.ID.Session (8:Int)).bind fun t457 => ((octet_Writer_Num t457 a0.ID.Seq (8:Int)).bind fun t462 => (some t462))).bind fun z467 => ((octet_Writer_Num z467 a0.Epoch (8:Int)).bind fun t472 => ((octet_Writer_Num t472 a0.Shards (2:Int)).bind fun t477 => ((octet_Writer_Num t477 (IntKind.u64.wrap ((a0.Parts).length : Int)) (4:Int)).bind fun t482 => (((loopO (command_Encode_l1 a0) (t482, (0:Int)))).bind (command_Encode_j0 a0)))))) else (bif (a0.Kind == (5:Int)) then (((octet_Writer_Num t382 a0.ID.Session (8:Int)).bind fun t608 => ((octet_Writer_Num t608 a0.ID.Seq (8:Int)).bind fun t613 => (some t613))).bind fun z618 => ((octet_Writer_Done z618).bind fun t623 => (some t623))) else (bif (a0.Kind == (6:Int)) then ((command_layRule t382 a0.Rule).bind fun t631 => ((octet_Writer_Flag t631 a0.On).bind fun t636 => ((octet_Writer_Done t636).bind fun t641 => (some t641)))) else (bif (a0.Kind == (7:Int)) then (((octet_Writer_Num t382 a0.ID.Session (8:Int)).bind fun t649 => ((octet_Writer_Num t649 a0.ID.Seq (8:Int)).bind fun t654 => (some t654))).bind fun z659 => ((octet_Writer_Num z659 a0.Epoch (8:Int)).bind fun t664 => ((command_layRule t664 a0.Rule).bind fun t669 => ((command_writes t669 a0.Writes).bind fun t674 => ((command_LayReply t674 a0.R).bind fun t679 => ((octet_Writer_Done t679).bind fun t684 => (some t684))))))) else ((octet_Writer_Done t382).bind fun t691 => (some t691))))))))))

noncomputable def law13_awake : Option (Bool) :=
  ((command_Encode ({ Kind := (1:Int), ID := ({ Session := (0:Int), Seq := (0:Int) } : api_ID), Epoch := (3:Int), Index := (0:Int), E := (0:Int), Hold := ({ ID := ({ Session := (0:Int), Seq := (0:Int) } : api_ID), Epoch := (0:Int), Gets := [], Scans := [], Puts := [], Data := [] } : api_Hold), Writes := [], R := ({ E := (0:Int), Epoch := (0:Int), Index := (0:Int), Gots := [], Scans := [] } : api_Reply), Shards := (0:Int), Parts := [], Rule := ({ ID := (0:Int), From := (0:Int), To := (0:Int), Lo := (0:Nat), Hi := (0:Nat), Authority := (0:Int), Quota := (0:Int) } : api_Rule), On := false } : api_Command)).bind fun t42 => (bif (sEq (toStr t42) (ByteArray.mk #[1, 3, 0, 0, 0, 0, 0, 0, 0])) then (some true) else (some false)))

noncomputable def ref12_Tape_Next (a0 : ref12_Tape) (a1 : Int) : Option (Int × ref12_Tape) :=
  (bif (decide (a0.I ≥ ((a0.L).length : Int))) then (some ((0:Int), a0)) else ((geto a0.L (IntKind.i64.wrap ((IntKind.i64.wrap (a0.I + (1:Int))) - (1:Int)))).bind fun x62 => (gd (!(a1 == (0:Int))) (some ((Int.tmod (IntKind.i64.wrap x62) a1), ({ L := a0.L, I := (IntKind.i64.wrap (a0.I + (1:Int))) } : ref12_Tape))))))

noncomputable def ref12_Tape_Of (a0 : ref12_Tape) : Option (api_ID × ref12_Tape) :=
  ((ref12_Tape_Next a0 (4:Int)).bind fun t113 => ((ref12_Tape_Next t113.2 (4:Int)).bind fun t118 => (some (({ Session := (IntKind.u64.wrap t113.1), Seq := (IntKind.u64.wrap (IntKind.i64.wrap ((1:Int) + t118.1))) } : api_ID), t118.2))))

noncomputable def ref12_small (a0 : Int) : Option (Nat) :=
  ((geto ([(0:Nat), (4607182418800017408:Nat), (13830554455654793216:Nat), (4612811918334230528:Nat), (9094988921128908188:Nat), (18318360957983683996:Nat), (4602678819172646912:Nat), (4613937818241073152:Nat)]) (Int.tmod a0 (8:Int))).bind fun x141 => (some x141))

noncomputable def ref12_Tape_Float (a0 : ref12_Tape) : Option (Nat × ref12_Tape) :=
  ((ref12_Tape_Next a0 (8:Int)).bind fun t132 => ((ref12_small (IntKind.u8.wrap t132.1)).bind fun t137 => (some (t137, t132.2))))

noncomputable def ref12_Tape_Val_l0 (t529 : (Int × ref12_Tape)) (s : (ref12_Tape × (List Int) × Int)) : Option ((ref12_Tape × (List Int) × Int) ⊕ ((List Int) × ref12_Tape)) :=
  match s with | (z584, z585, z588) => (bif (decide (z588 < t529.1)) then ((ref12_Tape_Next z584 (26:Int)).bind fun t598 => (gd (room z585 ([(IntKind.u8.wrap (IntKind.i64.wrap ((97:Int) + t598.1)))])) (some (Sum.inl (t598.2, (z585 ++ ([(IntKind.u8.wrap (IntKind.i64.wrap ((97:Int) + t598.1)))])), (IntKind.i64.wrap (z588 + (1:Int)))))))) else (inrO (some (z585, z584))))
noncomputable def ref12_Tape_Val (a0 : ref12_Tape) : Option ((List Int) × ref12_Tape) :=
  ((ref12_Tape_Next a0 (4:Int)).bind fun t529 => (loopO (ref12_Tape_Val_l0 t529) (t529.2, [], (0:Int))))

noncomputable def ref12_Tape_Hold_l1 (t488 : (Int × ref12_Tape)) (s : ((List Nat) × ref12_Tape × Int)) : Option (((List Nat) × ref12_Tape × Int) ⊕ (ref12_Tape × (List Nat))) :=
  match s with | (z549, z552, z553) => (bif (decide (z553 < t488.1)) then ((ref12_Tape_Float z552).bind fun t563 => (gd (room z549 ([t563.1])) (some (Sum.inl ((z549 ++ ([t563.1])), t563.2, (IntKind.i64.wrap (z553 + (1:Int)))))))) else (inrO (some (z552, z549))))
noncomputable def ref12_Tape_Hold_l3 (t588 : (Int × ref12_Tape)) (s : ((List (Nat × Nat)) × ref12_Tape × Int)) : Option (((List (Nat × Nat)) × ref12_Tape × Int) ⊕ (ref12_Tape × (List (Nat × Nat)))) :=
  match s with | (z664, z667, z668) => (bif (decide (z668 < (IntKind.i64.wrap (Int.tdiv t588.1 (2:Int))))) then ((ref12_Tape_Float z667).bind fun t678 => ((ref12_Tape_Float t678.2).bind fun t683 => (gd (room z664 ([(t678.1, t683.1)])) (some (Sum.inl ((z664 ++ ([(t678.1, t683.1)])), t683.2, (IntKind.i64.wrap (z668 + (1:Int))))))))) else (inrO (some (z667, z664))))
noncomputable def ref12_Tape_Hold_l5 (t708 : (Int × ref12_Tape)) (s : ((List Nat) × ref12_Tape × Int)) : Option (((List Nat) × ref12_Tape × Int) ⊕ (ref12_Tape × (List Nat))) :=
  match s with | (z769, z772, z773) => (bif (decide (z773 < t708.1)) then ((ref12_Tape_Float z772).bind fun t783 => (gd (room z769 ([t783.1])) (some (Sum.inl ((z769 ++ ([t783.1])), t783.2, (IntKind.i64.wrap (z773 + (1:Int)))))))) else (inrO (some (z772, z769))))
noncomputable def ref12_Tape_Hold_j4 (t463 : (api_ID × ref12_Tape)) (t468 : (Int × ref12_Tape)) (z582 : (List Nat)) (z702 : (List (Nat × Nat))) (s : (ref12_Tape × (List Nat))) : Option (api_Hold × ref12_Tape) :=
  match s with | (z799, z802) => ((ref12_Tape_Next z799 (4:Int)).bind fun t808 => (bif (t808.1 == (0:Int)) then ((ref12_Tape_Val t808.2).bind fun t814 => (some (({ ID := t463.1, Epoch := (IntKind.u64.wrap (IntKind.i64.wrap ((1:Int) + t468.1))), Gets := z582, Scans := z702, Puts := z802, Data := t814.1 } : api_Hold), t814.2))) else (some (({ ID := t463.1, Epoch := (IntKind.u64.wrap (IntKind.i64.wrap ((1:Int) + t468.1))), Gets := z582, Scans := z702, Puts := z802, Data := [] } : api_Hold), t808.2))))
noncomputable def ref12_Tape_Hold_j2 (t463 : (api_ID × ref12_Tape)) (t468 : (Int × ref12_Tape)) (z582 : (List Nat)) (s : (ref12_Tape × (List (Nat × Nat)))) : Option (api_Hold × ref12_Tape) :=
  match s with | (z699, z702) => ((ref12_Tape_Next z699 (3:Int)).bind fun t708 => (((loopO (ref12_Tape_Hold_l5 t708) ([], t708.2, (0:Int)))).bind (ref12_Tape_Hold_j4 t463 t468 z582 z702)))
noncomputable def ref12_Tape_Hold_j0 (t463 : (api_ID × ref12_Tape)) (t468 : (Int × ref12_Tape)) (s : (ref12_Tape × (List Nat))) : Option (api_Hold × ref12_Tape) :=
  match s with | (z579, z582) => ((ref12_Tape_Next z579 (3:Int)).bind fun t588 => (((loopO (ref12_Tape_Hold_l3 t588) ([], t588.2, (0:Int)))).bind (ref12_Tape_Hold_j2 t463 t468 z582)))
noncomputable def ref12_Tape_Hold (a0 : ref12_Tape) : Option (api_Hold × ref12_Tape) :=
  ((ref12_Tape_Of a0).bind fun t463 => ((ref12_Tape_Next t463.2 (4:Int)).bind fun t468 => ((ref12_Tape_Next t468.2 (3:Int)).bind fun t488 => (((loopO (ref12_Tape_Hold_l1 t488) ([], t488.2, (0:Int)))).bind (ref12_Tape_Hold_j0 t463 t468)))))

noncomputable def ref13_OfWrites_j1 (z540 : (List api_Write)) (t554 : (Nat × ref12_Tape)) (t559 : (Int × ref12_Tape)) (z543 : Int) (s : (ref12_Tape × (List Int))) : Option ((ref12_Tape × (List api_Write) × Int) ⊕ ((List api_Write) × ref12_Tape)) :=
  match s with | (z583, z586) => (gd (room z540 ([({ At := t554.1, Del := (t559.1 == (0:Int)), Val := z586 } : api_Write)])) (some (Sum.inl (z583, (z540 ++ ([({ At := t554.1, Del := (t559.1 == (0:Int)), Val := z586 } : api_Write)])), (IntKind.i64.wrap (z543 + (1:Int)))))))
noncomputable def ref13_OfWrites_l0 (t373 : (Int × ref12_Tape)) (s : (ref12_Tape × (List api_Write) × Int)) : Option ((ref12_Tape × (List api_Write) × Int) ⊕ ((List api_Write) × ref12_Tape)) :=
  match s with | (z539, z540, z543) => (bif (decide (z543 < t373.1)) then ((ref12_Tape_Float z539).bind fun t554 => ((ref12_Tape_Next t554.2 (4:Int)).bind fun t559 => (((bif (!(t559.1 == (0:Int))) then ((ref12_Tape_Val t559.2).bind fun t574 => (some (t574.2, t574.1))) else (some (t559.2, [])))).bind (ref13_OfWrites_j1 z540 t554 t559 z543)))) else (inrO (some (z540, z539))))
noncomputable def ref13_OfWrites (a0 : ref12_Tape) : Option ((List api_Write) × ref12_Tape) :=
  ((ref12_Tape_Next a0 (3:Int)).bind fun t373 => (loopO (ref13_OfWrites_l0 t373) (t373.2, [], (0:Int))))

noncomputable def ref13_OfReply_l2 (t1377 : (Int × ref12_Tape)) (s : ((List api_Got) × ref12_Tape × Int)) : Option (((List api_Got) × ref12_Tape × Int) ⊕ (ref12_Tape × (List api_Got))) :=
  match s with | (z1474, z1477, z1478) => (bif (decide (z1478 < t1377.1)) then ((ref12_Tape_Next z1477 (2:Int)).bind fun t1489 => ((ref12_Tape_Val t1489.2).bind fun t1494 => (gd (room z1474 ([({ Has := (t1489.1 == (0:Int)), Val := t1494.1 } : api_Got)])) (some (Sum.inl ((z1474 ++ ([({ Has := (t1489.1 == (0:Int)), Val := t1494.1 } : api_Got)])), t1494.2, (IntKind.i64.wrap (z1478 + (1:Int))))))))) else (inrO (some (z1477, z1474))))
noncomputable def ref13_OfReply_l5 (t2034 : (Int × ref12_Tape)) (s : (ref12_Tape × Int × (List api_Pair))) : Option ((ref12_Tape × Int × (List api_Pair)) ⊕ (ref12_Tape × (List api_Pair))) :=
  match s with | (z2125, z2126, z2127) => (bif (decide (z2126 < t2034.1)) then ((ref12_Tape_Float z2125).bind fun t2140 => ((ref12_Tape_Val t2140.2).bind fun t2145 => (gd (room z2127 ([({ At := t2140.1, Val := t2145.1 } : api_Pair)])) (some (Sum.inl (t2145.2, (IntKind.i64.wrap (z2126 + (1:Int))), (z2127 ++ ([({ At := t2140.1, Val := t2145.1 } : api_Pair)])))))))) else (inrO (some (z2125, z2127))))
noncomputable def ref13_OfReply_j4 (z2018 : (List (List api_Pair))) (z2022 : Int) (s : (ref12_Tape × (List api_Pair))) : Option (((List (List api_Pair)) × ref12_Tape × Int) ⊕ (api_Reply × ref12_Tape)) :=
  match s with | (z2166, z2169) => (gd (room z2018 ([z2169])) (some (Sum.inl ((z2018 ++ ([z2169])), z2166, (IntKind.i64.wrap (z2022 + (1:Int)))))))
noncomputable def ref13_OfReply_l3 (t1528 : (Int × ref12_Tape)) (z1369 : Int) (z1370 : Int) (z1371 : Int) (z1520 : (List api_Got)) (s : ((List (List api_Pair)) × ref12_Tape × Int)) : Option (((List (List api_Pair)) × ref12_Tape × Int) ⊕ (api_Reply × ref12_Tape)) :=
  match s with | (z2018, z2021, z2022) => (bif (decide (z2022 < (IntKind.i64.wrap (Int.tdiv t1528.1 (2:Int))))) then ((ref12_Tape_Next z2021 (3:Int)).bind fun t2034 => (((loopO (ref13_OfReply_l5 t2034) (t2034.2, (0:Int), []))).bind (ref13_OfReply_j4 z2018 z2022))) else (inrO (some (({ E := z1369, Epoch := z1370, Index := z1371, Gots := z1520, Scans := z2018 } : api_Reply), z2021))))
noncomputable def ref13_OfReply_j1 (z1369 : Int) (z1370 : Int) (z1371 : Int) (s : (ref12_Tape × (List api_Got))) : Option (api_Reply × ref12_Tape) :=
  match s with | (z1517, z1520) => ((ref12_Tape_Next z1517 (3:Int)).bind fun t1528 => (loopO (ref13_OfReply_l3 t1528 z1369 z1370 z1371 z1520) ([], t1528.2, (0:Int))))
noncomputable def ref13_OfReply_j0 (s : (ref12_Tape × Int × Int × Int)) : Option (api_Reply × ref12_Tape) :=
  match s with | (z1366, z1369, z1370, z1371) => ((ref12_Tape_Next z1366 (3:Int)).bind fun t1377 => (((loopO (ref13_OfReply_l2 t1377) ([], t1377.2, (0:Int)))).bind (ref13_OfReply_j1 z1369 z1370 z1371)))
noncomputable def ref13_OfReply (a0 : ref12_Tape) : Option (api_Reply × ref12_Tape) :=
  ((((ref12_Tape_Next a0 (6:Int)).bind fun t1267 => ((geto ([(0:Int), (0:Int), (0:Int), (8:Int), (9:Int), (3:Int)]) t1267.1).bind fun x1272 => ((ref12_Tape_Next t1267.2 (4:Int)).bind fun t1277 => ((ref12_Tape_Next t1277.2 (9:Int)).bind fun t1282 => (some (t1282.2, x1272, (IntKind.u64.wrap t1277.1), (IntKind.u64.wrap t1282.1)))))))).bind (ref13_OfReply_j0))

noncomputable def ref13_OfRule (a0 : ref12_Tape) : Option (api_Rule × ref12_Tape) :=
  ((ref12_Tape_Next a0 (3:Int)).bind fun t387 => ((ref12_Tape_Next t387.2 (4:Int)).bind fun t392 => ((ref12_Tape_Next t392.2 (4:Int)).bind fun t397 => ((ref12_Tape_Float t397.2).bind fun t402 => ((ref12_Tape_Float t402.2).bind fun t407 => ((ref12_Tape_Next t407.2 (2:Int)).bind fun t412 => ((ref12_Tape_Next t412.2 (3:Int)).bind fun t417 => (some (({ ID := (IntKind.u64.wrap t387.1), From := t392.1, To := t397.1, Lo := t402.1, Hi := t407.1, Authority := (IntKind.u64.wrap t412.1), Quota := t417.1 } : api_Rule), t417.2)))))))))

noncomputable def ref13_OfCommand_l2 (t557 : (Int × ref12_Tape)) (s : ((List api_Part) × ref12_Tape × Int)) : Option (((List api_Part) × ref12_Tape × Int) ⊕ (ref12_Tape × (List api_Part))) :=
  match s with | (z639, z642, z643) => (bif (decide (z643 < t557.1)) then ((ref13_OfWrites z642).bind fun t654 => (gd (room z639 ([({ Shard := z643, Writes := t654.1 } : api_Part)])) (some (Sum.inl ((z639 ++ ([({ Shard := z643, Writes := t654.1 } : api_Part)])), t654.2, (IntKind.i64.wrap (z643 + (1:Int)))))))) else (inrO (some (z642, z639))))
noncomputable def ref13_OfCommand_j1 (t414 : (Int × ref12_Tape)) (z537 : Int) (t521 : (api_ID × ref12_Tape)) (t543 : (Int × ref12_Tape)) (t550 : (Int × ref12_Tape)) (s : (ref12_Tape × (List api_Part))) : Option (api_Command × ref12_Tape) :=
  match s with | (z677, z680) => ((ref13_OfReply z677).bind fun t688 => (some (({ Kind := (IntKind.u8.wrap (IntKind.i64.wrap ((1:Int) + t414.1))), ID := ({ Session := z537, Seq := t521.1.Seq } : api_ID), Epoch := (IntKind.u64.wrap (IntKind.i64.wrap ((1:Int) + t543.1))), Index := (0:Int), E := (0:Int), Hold := ({ ID := ({ Session := (0:Int), Seq := (0:Int) } : api_ID), Epoch := (0:Int), Gets := [], Scans := [], Puts := [], Data := [] } : api_Hold), Writes := [], R := t688.1, Shards := (IntKind.u64.wrap t550.1), Parts := z680, Rule := ({ ID := (0:Int), From := (0:Int), To := (0:Int), Lo := (0:Nat), Hi := (0:Nat), Authority := (0:Int), Quota := (0:Int) } : api_Rule), On := false } : api_Command), t688.2)))
noncomputable def ref13_OfCommand_j0 (t414 : (Int × ref12_Tape)) (t521 : (api_ID × ref12_Tape)) (s : (ref12_Tape × Int)) : Option (api_Command × ref12_Tape) :=
  match s with | (z536, z537) => ((ref12_Tape_Next z536 (4:Int)).bind fun t543 => ((ref12_Tape_Next t543.2 (4:Int)).bind fun t550 => ((ref12_Tape_Next t550.2 (3:Int)).bind fun t557 => (((loopO (ref13_OfCommand_l2 t557) ([], t557.2, (0:Int)))).bind (ref13_OfCommand_j1 t414 z537 t521 t543 t550)))))
noncomputable def ref13_OfCommand (a0 : ref12_Tape) : Option (api_Command × ref12_Tape) :=
  ((ref12_Tape_Next a0 (7:Int)).bind fun t414 => (bif ((IntKind.u8.wrap (IntKind.i64.wrap ((1:Int) + t414.1))) == (1:Int)) then ((ref12_Tape_Next t414.2 (4:Int)).bind fun t443 => (some (({ Kind := (IntKind.u8.wrap (IntKind.i64.wrap ((1:Int) + t414.1))), ID := ({ Session := (0:Int), Seq := (0:Int) } : api_ID), Epoch := (IntKind.u64.wrap (IntKind.i64.wrap ((1:Int) + t443.1))), Index := (0:Int), E := (0:Int), Hold := ({ ID := ({ Session := (0:Int), Seq := (0:Int) } : api_ID), Epoch := (0:Int), Gets := [], Scans := [], Puts := [], Data := [] } : api_Hold), Writes := [], R := ({ E := (0:Int), Epoch := (0:Int), Index := (0:Int), Gots := [], Scans := [] } : api_Reply), Shards := (0:Int), Parts := [], Rule := ({ ID := (0:Int), From := (0:Int), To := (0:Int), Lo := (0:Nat), Hi := (0:Nat), Authority := (0:Int), Quota := (0:Int) } : api_Rule), On := false } : api_Command), t443.2))) else (bif ((IntKind.u8.wrap (IntKind.i64.wrap ((1:Int) + t414.1))) == (2:Int)) then ((ref12_Tape_Hold t414.2).bind fun t453 => (some (({ Kind := (IntKind.u8.wrap (IntKind.i64.wrap ((1:Int) + t414.1))), ID := ({ Session := (0:Int), Seq := (0:Int) } : api_ID), Epoch := (0:Int), Index := (0:Int), E := (0:Int), Hold := t453.1, Writes := [], R := ({ E := (0:Int), Epoch := (0:Int), Index := (0:Int), Gots := [], Scans := [] } : api_Reply), Shards := (0:Int), Parts := [], Rule := ({ ID := (0:Int), From := (0:Int), To := (0:Int), Lo := (0:Nat), Hi := (0:Nat), Authority := (0:Int), Quota := (0:Int) } : api_Rule), On := false } : api_Command), t453.2))) else (bif ((IntKind.u8.wrap (IntKind.i64.wrap ((1:Int) + t414.1))) == (3:Int)) then ((ref12_Tape_Of t414.2).bind fun t471 => ((ref12_Tape_Next t471.2 (3:Int)).bind fun t483 => ((geto ([(0:Int), (0:Int), (8:Int)]) t483.1).bind fun x488 => ((ref12_Tape_Next t483.2 (4:Int)).bind fun t495 => ((ref12_Tape_Next t495.2 (20:Int)).bind fun t502 => ((ref13_OfWrites t502.2).bind fun t509 => (some (({ Kind := (IntKind.u8.wrap (IntKind.i64.wrap ((1:Int) + t414.1))), ID := t471.1, Epoch := (IntKind.u64.wrap (IntKind.i64.wrap ((1:Int) + t495.1))), Index := (IntKind.u64.wrap t502.1), E := x488, Hold := ({ ID := ({ Session := (0:Int), Seq := (0:Int) } : api_ID), Epoch := (0:Int), Gets := [], Scans := [], Puts := [], Data := [] } : api_Hold), Writes := t509.1, R := ({ E := (0:Int), Epoch := (0:Int), Index := (0:Int), Gots := [], Scans := [] } : api_Reply), Shards := (0:Int), Parts := [], Rule := ({ ID := (0:Int), From := (0:Int), To := (0:Int), Lo := (0:Nat), Hi := (0:Nat), Authority := (0:Int), Quota := (0:Int) } : api_Rule), On := false } : api_Command), t509.2)))))))) else (bif ((IntKind.u8.wrap (IntKind.i64.wrap ((1:Int) + t414.1))) == (4:Int)) then ((ref12_Tape_Of t414.2).bind fun t521 => ((((ref12_Tape_Next t521.2 (6:Int)).bind fun t528 => (bif (t528.1 == (0:Int)) then (some (t528.2, (IntKind.u64.wrap (t521.1.Session + (9223372036854775808:Int))))) else (some (t528.2, t521.1.Session))))).bind (ref13_OfCommand_j0 t414 t521))) else (bif ((IntKind.u8.wrap (IntKind.i64.wrap ((1:Int) + t414.1))) == (5:Int)) then ((ref12_Tape_Of t414.2).bind fun t702 => (some (({ Kind := (IntKind.u8.wrap (IntKind.i64.wrap ((1:Int) + t414.1))), ID := t702.1, Epoch := (0:Int), Index := (0:Int), E := (0:Int), Hold := ({ ID := ({ Session := (0:Int), Seq := (0:Int) } : api_ID), Epoch := (0:Int), Gets := [], Scans := [], Puts := [], Data := [] } : api_Hold), Writes := [], R := ({ E := (0:Int), Epoch := (0:Int), Index := (0:Int), Gots := [], Scans := [] } : api_Reply), Shards := (0:Int), Parts := [], Rule := ({ ID := (0:Int), From := (0:Int), To := (0:Int), Lo := (0:Nat), Hi := (0:Nat), Authority := (0:Int), Quota := (0:Int) } : api_Rule), On := false } : api_Command), t702.2))) else (bif ((IntKind.u8.wrap (IntKind.i64.wrap ((1:Int) + t414.1))) == (6:Int)) then ((ref13_OfRule t414.2).bind fun t712 => ((ref12_Tape_Next t712.2 (3:Int)).bind fun t719 => (some (({ Kind := (IntKind.u8.wrap (IntKind.i64.wrap ((1:Int) + t414.1))), ID := ({ Session := (0:Int), Seq := (0:Int) } : api_ID), Epoch := (0:Int), Index := (0:Int), E := (0:Int), Hold := ({ ID := ({ Session := (0:Int), Seq := (0:Int) } : api_ID), Epoch := (0:Int), Gets := [], Scans := [], Puts := [], Data := [] } : api_Hold), Writes := [], R := ({ E := (0:Int), Epoch := (0:Int), Index := (0:Int), Gots := [], Scans := [] } : api_Reply), Shards := (0:Int), Parts := [], Rule := t712.1, On := (decide (t719.1 > (0:Int))) } : api_Command), t719.2)))) else (bif ((IntKind.u8.wrap (IntKind.i64.wrap ((1:Int) + t414.1))) == (7:Int)) then ((ref12_Tape_Of t414.2).bind fun t729 => ((ref12_Tape_Next t729.2 (4:Int)).bind fun t736 => ((ref13_OfRule t736.2).bind fun t743 => ((ref13_OfWrites t743.2).bind fun t750 => ((ref13_OfReply t750.2).bind fun t759 => (some (({ Kind := (IntKind.u8.wrap (IntKind.i64.wrap ((1:Int) + t414.1))), ID := t729.1, Epoch := (IntKind.u64.wrap (IntKind.i64.wrap ((1:Int) + t736.1))), Index := (0:Int), E := (0:Int), Hold := ({ ID := ({ Session := (0:Int), Seq := (0:Int) } : api_ID), Epoch := (0:Int), Gets := [], Scans := [], Puts := [], Data := [] } : api_Hold), Writes := t750.1, R := t759.1, Shards := (0:Int), Parts := [], Rule := t743.1, On := false } : api_Command), t759.2))))))) else (some (({ Kind := (IntKind.u8.wrap (IntKind.i64.wrap ((1:Int) + t414.1))), ID := ({ Session := (0:Int), Seq := (0:Int) } : api_ID), Epoch := (0:Int), Index := (0:Int), E := (0:Int), Hold := ({ ID := ({ Session := (0:Int), Seq := (0:Int) } : api_ID), Epoch := (0:Int), Gets := [], Scans := [], Puts := [], Data := [] } : api_Hold), Writes := [], R := ({ E := (0:Int), Epoch := (0:Int), Index := (0:Int), Gots := [], Scans := [] } : api_Reply), Shards := (0:Int), Parts := [], Rule := ({ ID := (0:Int), From := (0:Int), To := (0:Int), Lo := (0:Nat), Hi := (0:Nat), Authority := (0:Int), Quota := (0:Int) } : api_Rule), On := false } : api_Command), t414.2))))))))))

noncomputable def octet_Read (a0 : (List Int)) : Option (octet_Reader) :=
  (some ({ p := a0, bad := false } : octet_Reader))

noncomputable def octet_Reader_spoil (a0 : octet_Reader) : Option (octet_Reader) :=
  (some ({ p := a0.p, bad := true } : octet_Reader))

noncomputable def octet_Reader_Num_l1 (a1 : Int) (a0 : octet_Reader) (s : (Int × Int)) : Option ((Int × Int) ⊕ (Int)) :=
  match s with | (z256, z257) => (bif (decide (z256 < (if (8:Int) < a1 then (8:Int) else a1))) then ((geto a0.p z256).bind fun x272 => (gd (decide ((0:Int) ≤ (IntKind.i64.wrap ((8:Int) * z256)))) (some (Sum.inl ((IntKind.i64.wrap (z256 + (1:Int))), (bOr .u64 z257 (iShl .u64 (IntKind.u64.wrap x272) (IntKind.i64.wrap ((8:Int) * z256))))))))) else (inrO (some z257)))
noncomputable def octet_Reader_Num_j0 (a0 : octet_Reader) (a1 : Int) (z278 : (Int)) : Option (Int × octet_Reader) :=
  (gd (fits a0.p a1 (((a0.p).length : Nat) : Int)) (some (z278, ({ p := (subs a0.p a1 (((a0.p).length : Nat) : Int)), bad := a0.bad } : octet_Reader))))
noncomputable def octet_Reader_Num (a0 : octet_Reader) (a1 : Int) : Option (Int × octet_Reader) :=
  (bif a0.bad then ((octet_Reader_spoil a0).bind fun t213 => (some ((0:Int), t213))) else (bif (decide (a1 < (0:Int))) then ((octet_Reader_spoil a0).bind fun t219 => (some ((0:Int), t219))) else (bif (decide (((a0.p).length : Int) < a1)) then ((octet_Reader_spoil a0).bind fun t225 => (some ((0:Int), t225))) else (((loopO (octet_Reader_Num_l1 a1 a0) ((0:Int), (0:Int)))).bind (octet_Reader_Num_j0 a0 a1)))))

noncomputable def octet_Reader_Count (a0 : octet_Reader) (a1 : Int) : Option (Int × octet_Reader) :=
  ((octet_Reader_Num a0 (4:Int)).bind fun t213 => (bif (decide (a1 < (0:Int))) then ((octet_Reader_spoil t213.2).bind fun t219 => (some ((0:Int), t219))) else (bif (decide (t213.1 > (IntKind.u64.wrap a1))) then ((octet_Reader_spoil t213.2).bind fun t225 => (some ((0:Int), t225))) else (some ((IntKind.i64.wrap t213.1), t213.2)))))

noncomputable def number_Back (a0 : Int) : Option (Nat) :=
  (bif ((iShr .u64 a0 (63:Int)) == (1:Int)) then (some (Int.toNat (bAndNot .u64 a0 (9223372036854775808:Int)))) else (some (Int.toNat (bXor .u64 ((18446744073709551615):Int) a0))))

noncomputable def octet_Reader_Bytes (a0 : octet_Reader) (a1 : Int) : Option ((List Int) × octet_Reader) :=
  ((octet_Reader_Num a0 (4:Int)).bind fun t654 => (bif t654.2.bad then ((octet_Reader_spoil t654.2).bind fun t664 => (some ([], t664))) else (bif (decide (a1 < (0:Int))) then ((octet_Reader_spoil t654.2).bind fun t671 => (some ([], t671))) else (bif (decide (t654.1 > (IntKind.u64.wrap a1))) then ((octet_Reader_spoil t654.2).bind fun t678 => (some ([], t678))) else (bif (decide (t654.1 > (IntKind.u64.wrap ((t654.2.p).length : Int)))) then ((octet_Reader_spoil t654.2).bind fun t685 => (some ([], t685))) else (gd (fits t654.2.p (0:Int) t654.1) (gd (room ([] : List Int) (subs t654.2.p (0:Int) t654.1)) (gd (fits t654.2.p t654.1 (((t654.2.p).length : Nat) : Int)) (some ((subs t654.2.p (0:Int) t654.1), ({ p := (subs t654.2.p t654.1 (((t654.2.p).length : Nat) : Int)), bad := t654.2.bad } : octet_Reader)))))))))))

noncomputable def locks_Read_l1 (t645 : (Int × octet_Reader)) (s : ((List Nat) × octet_Reader × Int)) : Option (((List Nat) × octet_Reader × Int) ⊕ (octet_Reader × (List Nat))) :=
  match s with | (z721, z724, z725) => (bif (decide (z725 < t645.1)) then ((octet_Reader_Num z724 (8:Int)).bind fun t735 => ((number_Back t735.1).bind fun t740 => (gd (room z721 ([t740])) (some (Sum.inl ((z721 ++ ([t740])), t735.2, (IntKind.i64.wrap (z725 + (1:Int))))))))) else (inrO (some (z724, z721))))
noncomputable def locks_Read_l3 (t765 : (Int × octet_Reader)) (s : ((List (Nat × Nat)) × octet_Reader × Int)) : Option (((List (Nat × Nat)) × octet_Reader × Int) ⊕ (octet_Reader × (List (Nat × Nat)))) :=
  match s with | (z871, z874, z875) => (bif (decide (z875 < t765.1)) then ((octet_Reader_Num z874 (8:Int)).bind fun t885 => ((number_Back t885.1).bind fun t890 => ((octet_Reader_Num t885.2 (8:Int)).bind fun t895 => ((number_Back t895.1).bind fun t900 => (gd (room z871 ([(t890, t900)])) (some (Sum.inl ((z871 ++ ([(t890, t900)])), t895.2, (IntKind.i64.wrap (z875 + (1:Int))))))))))) else (inrO (some (z874, z871))))
noncomputable def locks_Read_l5 (t925 : (Int × octet_Reader)) (s : ((List Nat) × octet_Reader × Int)) : Option (((List Nat) × octet_Reader × Int) ⊕ (octet_Reader × (List Nat))) :=
  match s with | (z1001, z1004, z1005) => (bif (decide (z1005 < t925.1)) then ((octet_Reader_Num z1004 (8:Int)).bind fun t1015 => ((number_Back t1015.1).bind fun t1020 => (gd (room z1001 ([t1020])) (some (Sum.inl ((z1001 ++ ([t1020])), t1015.2, (IntKind.i64.wrap (z1005 + (1:Int))))))))) else (inrO (some (z1004, z1001))))
noncomputable def locks_Read_j4 (t615 : (Int × octet_Reader)) (t620 : (Int × octet_Reader)) (t625 : (Int × octet_Reader)) (z759 : (List Nat)) (z919 : (List (Nat × Nat))) (s : (octet_Reader × (List Nat))) : Option (api_Hold × octet_Reader) :=
  match s with | (z1036, z1039) => ((octet_Reader_Bytes z1036 (257:Int)).bind fun t1045 => (some (({ ID := ({ Session := t615.1, Seq := t620.1 } : api_ID), Epoch := t625.1, Gets := z759, Scans := z919, Puts := z1039, Data := t1045.1 } : api_Hold), t1045.2)))
noncomputable def locks_Read_j2 (t615 : (Int × octet_Reader)) (t620 : (Int × octet_Reader)) (t625 : (Int × octet_Reader)) (z759 : (List Nat)) (s : (octet_Reader × (List (Nat × Nat)))) : Option (api_Hold × octet_Reader) :=
  match s with | (z916, z919) => ((((octet_Reader_Count z916 (32:Int)).bind fun t925 => (loopO (locks_Read_l5 t925) ([], t925.2, (0:Int))))).bind (locks_Read_j4 t615 t620 t625 z759 z919))
noncomputable def locks_Read_j0 (t615 : (Int × octet_Reader)) (t620 : (Int × octet_Reader)) (t625 : (Int × octet_Reader)) (s : (octet_Reader × (List Nat))) : Option (api_Hold × octet_Reader) :=
  match s with | (z756, z759) => ((((octet_Reader_Count z756 (32:Int)).bind fun t765 => (loopO (locks_Read_l3 t765) ([], t765.2, (0:Int))))).bind (locks_Read_j2 t615 t620 t625 z759))
noncomputable def locks_Read (a0 : octet_Reader) : Option (api_Hold × octet_Reader) :=
  ((octet_Reader_Num a0 (8:Int)).bind fun t615 => ((octet_Reader_Num t615.2 (8:Int)).bind fun t620 => ((octet_Reader_Num t620.2 (8:Int)).bind fun t625 => ((((octet_Reader_Count t625.2 (32:Int)).bind fun t645 => (loopO (locks_Read_l1 t645) ([], t645.2, (0:Int))))).bind (locks_Read_j0 t615 t620 t625)))))

noncomputable def octet_Reader_Flag (a0 : octet_Reader) : Option (Bool × octet_Reader) :=
  ((octet_Reader_Num a0 (1:Int)).bind fun t242 => (bif (decide (t242.1 > (1:Int))) then ((octet_Reader_spoil t242.2).bind fun t248 => (some (false, t248))) else (some ((t242.1 == (1:Int)), t242.2))))

noncomputable def command_readWrites_l0 (t388 : (Int × octet_Reader)) (s : (octet_Reader × (List api_Write) × Int)) : Option ((octet_Reader × (List api_Write) × Int) ⊕ ((List api_Write) × octet_Reader)) :=
  match s with | (z509, z510, z513) => (bif (decide (z513 < t388.1)) then ((octet_Reader_Num z509 (8:Int)).bind fun t524 => ((number_Back t524.1).bind fun t529 => ((octet_Reader_Flag t524.2).bind fun t534 => ((octet_Reader_Bytes t534.2 (256:Int)).bind fun t539 => (gd (room z510 ([({ At := t529, Del := t534.1, Val := t539.1 } : api_Write)])) (some (Sum.inl (t539.2, (z510 ++ ([({ At := t529, Del := t534.1, Val := t539.1 } : api_Write)])), (IntKind.i64.wrap (z513 + (1:Int))))))))))) else (inrO (some (z510, z509))))
noncomputable def command_readWrites (a0 : octet_Reader) : Option ((List api_Write) × octet_Reader) :=
  ((octet_Reader_Count a0 (32:Int)).bind fun t388 => (loopO (command_readWrites_l0 t388) (t388.2, [], (0:Int))))

noncomputable def command_ReadReply_l1 (t1369 : (Int × octet_Reader)) (s : ((List api_Got) × octet_Reader × Int)) : Option (((List api_Got) × octet_Reader × Int) ⊕ (octet_Reader × (List api_Got))) :=
  match s with | (z1466, z1469, z1470) => (bif (decide (z1470 < t1369.1)) then ((octet_Reader_Flag z1469).bind fun t1481 => ((octet_Reader_Bytes t1481.2 (256:Int)).bind fun t1486 => (gd (room z1466 ([({ Has := t1481.1, Val := t1486.1 } : api_Got)])) (some (Sum.inl ((z1466 ++ ([({ Has := t1481.1, Val := t1486.1 } : api_Got)])), t1486.2, (IntKind.i64.wrap (z1470 + (1:Int))))))))) else (inrO (some (z1469, z1466))))
noncomputable def command_ReadReply_l4 (t2086 : (Int × octet_Reader)) (s : (octet_Reader × Int × (List api_Pair))) : Option ((octet_Reader × Int × (List api_Pair)) ⊕ (octet_Reader × (List api_Pair))) :=
  match s with | (z2192, z2193, z2194) => (bif (decide (z2193 < t2086.1)) then ((octet_Reader_Num z2192 (8:Int)).bind fun t2207 => ((number_Back t2207.1).bind fun t2212 => ((octet_Reader_Bytes t2207.2 (256:Int)).bind fun t2217 => (gd (room z2194 ([({ At := t2212, Val := t2217.1 } : api_Pair)])) (some (Sum.inl (t2217.2, (IntKind.i64.wrap (z2193 + (1:Int))), (z2194 ++ ([({ At := t2212, Val := t2217.1 } : api_Pair)]))))))))) else (inrO (some (z2192, z2194))))
noncomputable def command_ReadReply_j3 (z2070 : (List (List api_Pair))) (z2074 : Int) (s : (octet_Reader × (List api_Pair))) : Option (((List (List api_Pair)) × octet_Reader × Int) ⊕ (api_Reply × octet_Reader)) :=
  match s with | (z2238, z2241) => (gd (room z2070 ([z2241])) (some (Sum.inl ((z2070 ++ ([z2241])), z2238, (IntKind.i64.wrap (z2074 + (1:Int)))))))
noncomputable def command_ReadReply_l2 (t1520 : (Int × octet_Reader)) (t1343 : (Int × octet_Reader)) (t1348 : (Int × octet_Reader)) (t1353 : (Int × octet_Reader)) (z1512 : (List api_Got)) (s : ((List (List api_Pair)) × octet_Reader × Int)) : Option (((List (List api_Pair)) × octet_Reader × Int) ⊕ (api_Reply × octet_Reader)) :=
  match s with | (z2070, z2073, z2074) => (bif (decide (z2074 < t1520.1)) then ((((octet_Reader_Count z2073 (64:Int)).bind fun t2086 => (loopO (command_ReadReply_l4 t2086) (t2086.2, (0:Int), [])))).bind (command_ReadReply_j3 z2070 z2074)) else (inrO (some (({ E := (IntKind.i64.wrap t1343.1), Epoch := t1348.1, Index := t1353.1, Gots := z1512, Scans := z2070 } : api_Reply), z2073))))
noncomputable def command_ReadReply_j0 (t1343 : (Int × octet_Reader)) (t1348 : (Int × octet_Reader)) (t1353 : (Int × octet_Reader)) (s : (octet_Reader × (List api_Got))) : Option (api_Reply × octet_Reader) :=
  match s with | (z1509, z1512) => ((octet_Reader_Count z1509 (32:Int)).bind fun t1520 => (loopO (command_ReadReply_l2 t1520 t1343 t1348 t1353 z1512) ([], t1520.2, (0:Int))))
noncomputable def command_ReadReply (a0 : octet_Reader) : Option (api_Reply × octet_Reader) :=
  ((octet_Reader_Num a0 (1:Int)).bind fun t1343 => ((octet_Reader_Num t1343.2 (8:Int)).bind fun t1348 => ((octet_Reader_Num t1348.2 (8:Int)).bind fun t1353 => ((((octet_Reader_Count t1353.2 (32:Int)).bind fun t1369 => (loopO (command_ReadReply_l1 t1369) ([], t1369.2, (0:Int))))).bind (command_ReadReply_j0 t1343 t1348 t1353)))))

noncomputable def command_readRule (a0 : octet_Reader) : Option (api_Rule × octet_Reader) :=
  ((octet_Reader_Num a0 (8:Int)).bind fun t495 => ((octet_Reader_Num t495.2 (1:Int)).bind fun t500 => ((octet_Reader_Num t500.2 (1:Int)).bind fun t505 => ((octet_Reader_Num t505.2 (8:Int)).bind fun t510 => ((number_Back t510.1).bind fun t515 => ((octet_Reader_Num t510.2 (8:Int)).bind fun t520 => ((number_Back t520.1).bind fun t525 => ((octet_Reader_Num t520.2 (8:Int)).bind fun t530 => ((octet_Reader_Num t530.2 (4:Int)).bind fun t535 => (some (({ ID := t495.1, From := (IntKind.i64.wrap t500.1), To := (IntKind.i64.wrap t505.1), Lo := t515, Hi := t525, Authority := t530.1, Quota := (IntKind.i64.wrap t535.1) } : api_Rule), t535.2)))))))))))

noncomputable def octet_Reader_Bad (a0 : octet_Reader) : Option (Bool) :=
  (some a0.bad)

noncomputable def octet_Reader_End (a0 : octet_Reader) : Option (Bool) :=
  ((octet_Reader_Bad a0).bind fun t578 => (bif (!t578) then (some (((a0.p).length : Int) == (0:Int))) else (some false)))

noncomputable def slices_Equal_byte_byte_l0 (a0 : (List Int)) (a1 : (List Int)) (z682 : (Int)) : Option ((Int) ⊕ (Bool)) :=
  (bif (decide (z682 < ((a0).length : Int))) then ((geto a0 z682).bind fun x692 => ((geto a1 z682).bind fun x697 => (bif (x692 != x697) then (inrO (some false)) else (some (Sum.inl (IntKind.i64.wrap (z682 + (1:Int)))))))) else (inrO (some true)))
noncomputable def slices_Equal_byte_byte (a0 : (List Int)) (a1 : (List Int)) : Option (Bool) :=
  (bif (((a0).length : Int) != ((a1).length : Int)) then (some false) else (loopO (slices_Equal_byte_byte_l0 a0 a1) (0:Int)))

noncomputable def command_Decode_l2 (t793 : (Int × octet_Reader)) (s : ((List api_Part) × octet_Reader × Int)) : Option (((List api_Part) × octet_Reader × Int) ⊕ (octet_Reader × (List api_Part))) :=
  match s with | (z890, z893, z894) => (bif (decide (z894 < t793.1)) then ((octet_Reader_Num z893 (1:Int)).bind fun t905 => ((command_readWrites t905.2).bind fun t910 => (gd (room z890 ([({ Shard := (IntKind.i64.wrap t905.1), Writes := t910.1 } : api_Part)])) (some (Sum.inl ((z890 ++ ([({ Shard := (IntKind.i64.wrap t905.1), Writes := t910.1 } : api_Part)])), t910.2, (IntKind.i64.wrap (z894 + (1:Int))))))))) else (inrO (some (z893, z890))))
noncomputable def command_Decode_j1 (z773 : Int) (z774 : Int) (t779 : (Int × octet_Reader)) (t784 : (Int × octet_Reader)) (s : (octet_Reader × (List api_Part))) : Option ((octet_Reader × Int × Int × Int × Int × Int × Int × Int × Int × (List Nat) × (List (Nat × Nat)) × (List Nat) × (List Int) × (List api_Write) × Int × Int × Int × (List api_Got) × (List (List api_Pair)) × Int × (List api_Part) × Int × Int × Int × Nat × Nat × Int × Int × Bool) ⊕ (api_Command × Int)) :=
  match s with | (z933, z936) => ((command_ReadReply z933).bind fun t944 => (some (Sum.inl (t944.2, z773, z774, t779.1, (0:Int), (0:Int), (0:Int), (0:Int), (0:Int), [], [], [], [], [], t944.1.E, t944.1.Epoch, t944.1.Index, t944.1.Gots, t944.1.Scans, t784.1, z936, (0:Int), (0:Int), (0:Int), (0:Nat), (0:Nat), (0:Int), (0:Int), false))))
noncomputable def command_Decode_j0 (t657 : (Int × octet_Reader)) (a0 : (List Int)) (s : (octet_Reader × Int × Int × Int × Int × Int × Int × Int × Int × (List Nat) × (List (Nat × Nat)) × (List Nat) × (List Int) × (List api_Write) × Int × Int × Int × (List api_Got) × (List (List api_Pair)) × Int × (List api_Part) × Int × Int × Int × Nat × Nat × Int × Int × Bool)) : Option (api_Command × Int) :=
  match s with | (z1054, z1055, z1056, z1057, z1058, z1059, z1060, z1061, z1062, z1065, z1068, z1071, z1074, z1077, z1078, z1079, z1080, z1083, z1086, z1087, z1090, z1091, z1092, z1093, z1094, z1095, z1096, z1097, z1098) => ((octet_Reader_End z1054).bind fun t1106 => (bif (!t1106) then (some (({ Kind := (0:Int), ID := ({ Session := (0:Int), Seq := (0:Int) } : api_ID), Epoch := (0:Int), Index := (0:Int), E := (0:Int), Hold := ({ ID := ({ Session := (0:Int), Seq := (0:Int) } : api_ID), Epoch := (0:Int), Gets := [], Scans := [], Puts := [], Data := [] } : api_Hold), Writes := [], R := ({ E := (0:Int), Epoch := (0:Int), Index := (0:Int), Gots := [], Scans := [] } : api_Reply), Shards := (0:Int), Parts := [], Rule := ({ ID := (0:Int), From := (0:Int), To := (0:Int), Lo := (0:Nat), Hi := (0:Nat), Authority := (0:Int), Quota := (0:Int) } : api_Rule), On := false } : api_Command), (5:Int))) else ((command_Encode ({ Kind := (IntKind.u8.wrap t657.1), ID := ({ Session := z1055, Seq := z1056 } : api_ID), Epoch := z1057, Index := z1058, E := z1059, Hold := ({ ID := ({ Session := z1060, Seq := z1061 } : api_ID), Epoch := z1062, Gets := z1065, Scans := z1068, Puts := z1071, Data := z1074 } : api_Hold), Writes := z1077, R := ({ E := z1078, Epoch := z1079, Index := z1080, Gots := z1083, Scans := z1086 } : api_Reply), Shards := z1087, Parts := z1090, Rule := ({ ID := z1091, From := z1092, To := z1093, Lo := z1094, Hi := z1095, Authority := z1096, Quota := z1097 } : api_Rule), On := z1098 } : api_Command)).bind fun t1138 => ((slices_Equal_byte_byte t1138 a0).bind fun t1147 => (bif (!t1147) then (some (({ Kind := (0:Int), ID := ({ Session := (0:Int), Seq := (0:Int) } : api_ID), Epoch := (0:Int), Index := (0:Int), E := (0:Int), Hold := ({ ID := ({ Session := (0:Int), Seq := (0:Int) } : api_ID), Epoch := (0:Int), Gets := [], Scans := [], Puts := [], Data := [] } : api_Hold), Writes := [], R := ({ E := (0:Int), Epoch := (0:Int), Index := (0:Int), Gots := [], Scans := [] } : api_Reply), Shards := (0:Int), Parts := [], Rule := ({ ID := (0:Int), From := (0:Int), To := (0:Int), Lo := (0:Nat), Hi := (0:Nat), Authority := (0:Int), Quota := (0:Int) } : api_Rule), On := false } : api_Command), (5:Int))) else (some (({ Kind := (IntKind.u8.wrap t657.1), ID := ({ Session := z1055, Seq := z1056 } : api_ID), Epoch := z1057, Index := z1058, E := z1059, Hold := ({ ID := ({ Session := z1060, Seq := z1061 } : api_ID), Epoch := z1062, Gets := z1065, Scans := z1068, Puts := z1071, Data := z1074 } : api_Hold), Writes := z1077, R := ({ E := z1078, Epoch := z1079, Index := z1080, Gots := z1083, Scans := z1086 } : api_Reply), Shards := z1087, Parts := z1090, Rule := ({ ID := z1091, From := z1092, To := z1093, Lo := z1094, Hi := z1095, Authority := z1096, Quota := z1097 } : api_Rule), On := z1098 } : api_Command), (0:Int))))))))
noncomputable def command_Decode (a0 : (List Int)) : Option (api_Command × Int) :=
  ((octet_Read a0).bind fun t639 => ((octet_Reader_Num t639 (1:Int)).bind fun t657 => (joinO (bif ((IntKind.u8.wrap t657.1) == (1:Int)) then ((octet_Reader_Num t657.2 (8:Int)).bind fun t686 => (some (Sum.inl (t686.2, (0:Int), (0:Int), t686.1, (0:Int), (0:Int), (0:Int), (0:Int), (0:Int), [], [], [], [], [], (0:Int), (0:Int), (0:Int), [], [], (0:Int), [], (0:Int), (0:Int), (0:Int), (0:Nat), (0:Nat), (0:Int), (0:Int), false)))) else (bif ((IntKind.u8.wrap t657.1) == (2:Int)) then ((locks_Read t657.2).bind fun t694 => (some (Sum.inl (t694.2, (0:Int), (0:Int), (0:Int), (0:Int), (0:Int), t694.1.ID.Session, t694.1.ID.Seq, t694.1.Epoch, t694.1.Gets, t694.1.Scans, t694.1.Puts, t694.1.Data, [], (0:Int), (0:Int), (0:Int), [], [], (0:Int), [], (0:Int), (0:Int), (0:Int), (0:Nat), (0:Nat), (0:Int), (0:Int), false)))) else (bif ((IntKind.u8.wrap t657.1) == (3:Int)) then (((octet_Reader_Num t657.2 (8:Int)).bind fun t710 => ((octet_Reader_Num t710.2 (8:Int)).bind fun t715 => (some (t715.2, t710.1, t715.1)))).bind fun (z722, z723, z724) => ((octet_Reader_Num z722 (1:Int)).bind fun t729 => ((octet_Reader_Num t729.2 (8:Int)).bind fun t734 => ((octet_Reader_Num t734.2 (8:Int)).bind fun t739 => ((command_readWrites t739.2).bind fun t750 => (some (Sum.inl (t750.2, z723, z724, t734.1, t739.1, (IntKind.i64.wrap t729.1), (0:Int), (0:Int), (0:Int), [], [], [], [], t750.1, (0:Int), (0:Int), (0:Int), [], [], (0:Int), [], (0:Int), (0:Int), (0:Int), (0:Nat), (0:Nat), (0:Int), (0:Int), false)))))))) else (bif ((IntKind.u8.wrap t657.1) == (4:Int)) then (((octet_Reader_Num t657.2 (8:Int)).bind fun t760 => ((octet_Reader_Num t760.2 (8:Int)).bind fun t765 => (some (t765.2, t760.1, t765.1)))).bind fun (z772, z773, z774) => ((octet_Reader_Num z772 (8:Int)).bind fun t779 => ((octet_Reader_Num t779.2 (2:Int)).bind fun t784 => ((((octet_Reader_Count t784.2 (8:Int)).bind fun t793 => (loopO (command_Decode_l2 t793) ([], t793.2, (0:Int))))).bind (command_Decode_j1 z773 z774 t779 t784))))) else (bif ((IntKind.u8.wrap t657.1) == (5:Int)) then (((octet_Reader_Num t657.2 (8:Int)).bind fun t956 => ((octet_Reader_Num t956.2 (8:Int)).bind fun t961 => (some (t961.2, t956.1, t961.1)))).bind fun (z968, z969, z970) => (some (Sum.inl (z968, z969, z970, (0:Int), (0:Int), (0:Int), (0:Int), (0:Int), (0:Int), [], [], [], [], [], (0:Int), (0:Int), (0:Int), [], [], (0:Int), [], (0:Int), (0:Int), (0:Int), (0:Nat), (0:Nat), (0:Int), (0:Int), false)))) else (bif ((IntKind.u8.wrap t657.1) == (6:Int)) then ((command_readRule t657.2).bind fun t976 => ((octet_Reader_Flag t976.2).bind fun t983 => (some (Sum.inl (t983.2, (0:Int), (0:Int), (0:Int), (0:Int), (0:Int), (0:Int), (0:Int), (0:Int), [], [], [], [], [], (0:Int), (0:Int), (0:Int), [], [], (0:Int), [], t976.1.ID, t976.1.From, t976.1.To, t976.1.Lo, t976.1.Hi, t976.1.Authority, t976.1.Quota, t983.1))))) else (bif ((IntKind.u8.wrap t657.1) == (7:Int)) then (((octet_Reader_Num t657.2 (8:Int)).bind fun t991 => ((octet_Reader_Num t991.2 (8:Int)).bind fun t996 => (some (t996.2, t991.1, t996.1)))).bind fun (z1003, z1004, z1005) => ((octet_Reader_Num z1003 (8:Int)).bind fun t1010 => ((command_readRule t1010.2).bind fun t1017 => ((command_readWrites t1017.2).bind fun t1024 => ((command_ReadReply t1024.2).bind fun t1033 => (some (Sum.inl (t1033.2, z1004, z1005, t1010.1, (0:Int), (0:Int), (0:Int), (0:Int), (0:Int), [], [], [], [], t1024.1, t1033.1.E, t1033.1.Epoch, t1033.1.Index, t1033.1.Gots, t1033.1.Scans, (0:Int), [], t1017.1.ID, t1017.1.From, t1017.1.To, t1017.1.Lo, t1017.1.Hi, t1017.1.Authority, t1017.1.Quota, false)))))))) else (inrO (some (({ Kind := (0:Int), ID := ({ Session := (0:Int), Seq := (0:Int) } : api_ID), Epoch := (0:Int), Index := (0:Int), E := (0:Int), Hold := ({ ID := ({ Session := (0:Int), Seq := (0:Int) } : api_ID), Epoch := (0:Int), Gets := [], Scans := [], Puts := [], Data := [] } : api_Hold), Writes := [], R := ({ E := (0:Int), Epoch := (0:Int), Index := (0:Int), Gots := [], Scans := [] } : api_Reply), Shards := (0:Int), Parts := [], Rule := ({ ID := (0:Int), From := (0:Int), To := (0:Int), Lo := (0:Nat), Hi := (0:Nat), Authority := (0:Int), Quota := (0:Int) } : api_Rule), On := false } : api_Command), (5:Int))))))))))) (command_Decode_j0 t657 a0))))

noncomputable def ref02_Num_l0 (a2 : Int) (s : (Int × (List Int) × Int)) : Option ((Int × (List Int) × Int) ⊕ ((List Int))) :=
  match s with | (z225, z226, z229) => (bif (decide (z229 < a2)) then (gd (room z226 ([(IntKind.u8.wrap (bAnd .u64 z225 (255:Int)))])) (some (Sum.inl ((iShr .u64 z225 (8:Int)), (z226 ++ ([(IntKind.u8.wrap (bAnd .u64 z225 (255:Int)))])), (IntKind.i64.wrap (z229 + (1:Int))))))) else (inrO (some z226)))
noncomputable def ref02_Num (a0 : (List Int)) (a1 : Int) (a2 : Int) : Option ((List Int)) :=
  (gd (room ([] : List Int) a0) (loopO (ref02_Num_l0 a2) (a1, a0, (0:Int))))

noncomputable def ref12_ID (a0 : (List Int)) (a1 : api_ID) : Option ((List Int)) :=
  ((ref02_Num a0 a1.Session (8:Int)).bind fun t199 => ((ref02_Num t199 a1.Seq (8:Int)).bind fun t208 => (some t208)))

noncomputable def ref01_Rank (a0 : Nat) : Option (Int) :=
  (bif (fNe a0 a0) then (some (18446744073709551615:Int)) else (bif (decide ((Int.ofNat a0) ≥ (9223372036854775808:Int))) then (some (IntKind.u64.wrap ((18446744073709551615:Int) - (Int.ofNat a0)))) else (some (IntKind.u64.wrap ((Int.ofNat a0) + (9223372036854775808:Int))))))

noncomputable def ref02_Bytes (a0 : (List Int)) (a1 : (List Int)) : Option ((List Int)) :=
  ((ref02_Num a0 (IntKind.u64.wrap ((a1).length : Int)) (4:Int)).bind fun t523 => (gd (room t523 a1) (some (t523 ++ a1))))

noncomputable def ref12_Hold_l1 (a1 : api_Hold) (s : ((List Int) × Int)) : Option (((List Int) × Int) ⊕ ((List Int))) :=
  match s with | (z595, z598) => (bif (decide (z598 < ((a1.Gets).length : Int))) then ((geto a1.Gets z598).bind fun x608 => ((ref01_Rank x608).bind fun t613 => ((ref02_Num z595 t613 (8:Int)).bind fun t620 => (some (Sum.inl (t620, (IntKind.i64.wrap (z598 + (1:Int))))))))) else (inrO (some z595)))
noncomputable def ref12_Hold_l3 (a1 : api_Hold) (s : ((List Int) × Int)) : Option (((List Int) × Int) ⊕ ((List Int))) :=
  match s with | (z716, z719) => (bif (decide (z719 < ((a1.Scans).length : Int))) then ((geto a1.Scans z719).bind fun x729 => ((ref01_Rank x729.1).bind fun t734 => ((ref02_Num z716 t734 (8:Int)).bind fun t741 => ((ref01_Rank x729.2).bind fun t748 => ((ref02_Num t741 t748 (8:Int)).bind fun t755 => (some (Sum.inl (t755, (IntKind.i64.wrap (z719 + (1:Int))))))))))) else (inrO (some z716)))
noncomputable def ref12_Hold_l5 (a1 : api_Hold) (s : ((List Int) × Int)) : Option (((List Int) × Int) ⊕ ((List Int))) :=
  match s with | (z823, z826) => (bif (decide (z826 < ((a1.Puts).length : Int))) then ((geto a1.Puts z826).bind fun x836 => ((ref01_Rank x836).bind fun t841 => ((ref02_Num z823 t841 (8:Int)).bind fun t848 => (some (Sum.inl (t848, (IntKind.i64.wrap (z826 + (1:Int))))))))) else (inrO (some z823)))
noncomputable def ref12_Hold_j4 (a1 : api_Hold) (z857 : ((List Int))) : Option ((List Int)) :=
  ((ref02_Bytes z857 a1.Data).bind fun t865 => (some t865))
noncomputable def ref12_Hold_j2 (a1 : api_Hold) (z764 : ((List Int))) : Option ((List Int)) :=
  ((ref02_Num z764 (IntKind.u64.wrap ((a1.Puts).length : Int)) (4:Int)).bind fun t772 => (((loopO (ref12_Hold_l5 a1) (t772, (0:Int)))).bind (ref12_Hold_j4 a1)))
noncomputable def ref12_Hold_j0 (a1 : api_Hold) (z629 : ((List Int))) : Option ((List Int)) :=
  ((ref02_Num z629 (IntKind.u64.wrap ((a1.Scans).length : Int)) (4:Int)).bind fun t637 => (((loopO (ref12_Hold_l3 a1) (t637, (0:Int)))).bind (ref12_Hold_j2 a1)))
noncomputable def ref12_Hold (a0 : (List Int)) (a1 : api_Hold) : Option ((List Int)) :=
  ((ref12_ID a0 a1.ID).bind fun t526 => ((ref02_Num t526 a1.Epoch (8:Int)).bind fun t535 => ((ref02_Num t535 (IntKind.u64.wrap ((a1.Gets).length : Int)) (4:Int)).bind fun t544 => (((loopO (ref12_Hold_l1 a1) (t544, (0:Int)))).bind (ref12_Hold_j0 a1)))))

noncomputable def ref02_Flag (a0 : (List Int)) (a1 : Bool) : Option ((List Int)) :=
  (bif a1 then ((ref02_Num a0 (1:Int) (1:Int)).bind fun t217 => (some t217)) else ((ref02_Num a0 (0:Int) (1:Int)).bind fun t224 => (some t224)))

noncomputable def ref13_Writes_l0 (a1 : (List api_Write)) (s : ((List Int) × Int)) : Option (((List Int) × Int) ⊕ ((List Int))) :=
  match s with | (z446, z449) => (bif (decide (z449 < ((a1).length : Int))) then ((geto a1 z449).bind fun x459 => ((ref01_Rank x459.At).bind fun t470 => ((ref02_Num z446 t470 (8:Int)).bind fun t477 => ((ref02_Flag t477 x459.Del).bind fun t486 => ((ref02_Bytes t486 x459.Val).bind fun t495 => (some (Sum.inl (t495, (IntKind.i64.wrap (z449 + (1:Int))))))))))) else (inrO (some z446)))
noncomputable def ref13_Writes (a0 : (List Int)) (a1 : (List api_Write)) : Option ((List Int)) :=
  ((ref02_Num a0 (IntKind.u64.wrap ((a1).length : Int)) (4:Int)).bind fun t347 => (loopO (ref13_Writes_l0 a1) (t347, (0:Int))))

noncomputable def ref13_Reply_l1 (a1 : api_Reply) (s : ((List Int) × Int)) : Option (((List Int) × Int) ⊕ ((List Int))) :=
  match s with | (z1133, z1136) => (bif (decide (z1136 < ((a1.Gots).length : Int))) then ((geto a1.Gots z1136).bind fun x1146 => ((ref02_Flag z1133 x1146.Has).bind fun t1159 => ((ref02_Bytes t1159 x1146.Val).bind fun t1168 => (some (Sum.inl (t1168, (IntKind.i64.wrap (z1136 + (1:Int))))))))) else (inrO (some z1133)))
noncomputable def ref13_Reply_l3 (x1529 : (List api_Pair)) (z1519 : Int) (s : ((List Int) × Int)) : Option (((List Int) × Int) ⊕ (((List Int) × Int) ⊕ ((List Int)))) :=
  match s with | (z1635, z1638) => (bif (decide (z1638 < ((x1529).length : Int))) then ((geto x1529 z1638).bind fun x1654 => ((ref01_Rank x1654.At).bind fun t1665 => ((ref02_Num z1635 t1665 (8:Int)).bind fun t1672 => ((ref02_Bytes t1672 x1654.Val).bind fun t1681 => (some (Sum.inl (t1681, (IntKind.i64.wrap (z1638 + (1:Int)))))))))) else (inrO (some (Sum.inl (z1635, (IntKind.i64.wrap (z1519 + (1:Int))))))))
noncomputable def ref13_Reply_l2 (a1 : api_Reply) (s : ((List Int) × Int)) : Option (((List Int) × Int) ⊕ ((List Int))) :=
  match s with | (z1516, z1519) => (bif (decide (z1519 < ((a1.Scans).length : Int))) then ((geto a1.Scans z1519).bind fun x1529 => ((ref02_Num z1516 (IntKind.u64.wrap ((x1529).length : Int)) (4:Int)).bind fun t1542 => (loopO (ref13_Reply_l3 x1529 z1519) (t1542, (0:Int))))) else (inrO (some z1516)))
noncomputable def ref13_Reply_j0 (a1 : api_Reply) (z1177 : ((List Int))) : Option ((List Int)) :=
  ((ref02_Num z1177 (IntKind.u64.wrap ((a1.Scans).length : Int)) (4:Int)).bind fun t1185 => (loopO (ref13_Reply_l2 a1) (t1185, (0:Int))))
noncomputable def ref13_Reply (a0 : (List Int)) (a1 : api_Reply) : Option ((List Int)) :=
  ((ref02_Num a0 (IntKind.u64.wrap a1.E) (1:Int)).bind fun t1035 => ((ref02_Num t1035 a1.Epoch (8:Int)).bind fun t1044 => ((ref02_Num t1044 a1.Index (8:Int)).bind fun t1053 => ((ref02_Num t1053 (IntKind.u64.wrap ((a1.Gots).length : Int)) (4:Int)).bind fun t1062 => (((loopO (ref13_Reply_l1 a1) (t1062, (0:Int)))).bind (ref13_Reply_j0 a1))))))

noncomputable def ref13_Rule (a0 : (List Int)) (a1 : api_Rule) : Option ((List Int)) :=
  ((ref02_Num a0 a1.ID (8:Int)).bind fun t469 => ((ref02_Num t469 (IntKind.u64.wrap a1.From) (1:Int)).bind fun t478 => ((ref02_Num t478 (IntKind.u64.wrap a1.To) (1:Int)).bind fun t487 => ((ref01_Rank a1.Lo).bind fun t494 => ((ref02_Num t487 t494 (8:Int)).bind fun t501 => ((ref01_Rank a1.Hi).bind fun t508 => ((ref02_Num t501 t508 (8:Int)).bind fun t515 => ((ref02_Num t515 a1.Authority (8:Int)).bind fun t524 => ((ref02_Num t524 (IntKind.u64.wrap a1.Quota) (4:Int)).bind fun t533 => (some t533))))))))))

noncomputable def ref13_Command_l1 (a0 : api_Command) (s : ((List Int) × Int)) : Option (((List Int) × Int) ⊕ ((List Int))) :=
  match s with | (z638, z641) => (bif (decide (z641 < ((a0.Parts).length : Int))) then ((geto a0.Parts z641).bind fun x651 => ((ref02_Num z638 (IntKind.u64.wrap x651.Shard) (1:Int)).bind fun t664 => ((ref13_Writes t664 x651.Writes).bind fun t673 => (some (Sum.inl (t673, (IntKind.i64.wrap (z641 + (1:Int))))))))) else (inrO (some z638)))
noncomputable def ref13_Command_j0 (a0 : api_Command) (z682 : ((List Int))) : Option ((List Int)) :=
  ((ref13_Reply z682 a0.R).bind fun t690 => (some t690))
noncomputable def ref13_Command (a0 : api_Command) : Option ((List Int)) :=
  ((ref02_Num ([]) (IntKind.u64.wrap a0.Kind) (1:Int)).bind fun t464 => (bif (a0.Kind == (1:Int)) then ((ref02_Num t464 a0.Epoch (8:Int)).bind fun t474 => (some t474)) else (bif (a0.Kind == (2:Int)) then ((ref12_Hold t464 a0.Hold).bind fun t484 => (some t484)) else (bif (a0.Kind == (3:Int)) then ((ref12_ID t464 a0.ID).bind fun t494 => ((ref02_Num t494 (IntKind.u64.wrap a0.E) (1:Int)).bind fun t503 => ((ref02_Num t503 a0.Epoch (8:Int)).bind fun t512 => ((ref02_Num t512 a0.Index (8:Int)).bind fun t521 => ((ref13_Writes t521 a0.Writes).bind fun t530 => (some t530)))))) else (bif (a0.Kind == (4:Int)) then ((ref12_ID t464 a0.ID).bind fun t540 => ((ref02_Num t540 a0.Epoch (8:Int)).bind fun t549 => ((ref02_Num t549 a0.Shards (2:Int)).bind fun t558 => ((ref02_Num t558 (IntKind.u64.wrap ((a0.Parts).length : Int)) (4:Int)).bind fun t567 => (((loopO (ref13_Command_l1 a0) (t567, (0:Int)))).bind (ref13_Command_j0 a0)))))) else (bif (a0.Kind == (5:Int)) then ((ref12_ID t464 a0.ID).bind fun t700 => (some t700)) else (bif (a0.Kind == (6:Int)) then ((ref13_Rule t464 a0.Rule).bind fun t710 => ((ref02_Flag t710 a0.On).bind fun t719 => (some t719))) else (bif (a0.Kind == (7:Int)) then ((ref12_ID t464 a0.ID).bind fun t729 => ((ref02_Num t729 a0.Epoch (8:Int)).bind fun t738 => ((ref13_Rule t738 a0.Rule).bind fun t747 => ((ref13_Writes t747 a0.Writes).bind fun t756 => ((ref13_Reply t756 a0.R).bind fun t765 => (some t765)))))) else (some t464)))))))))

noncomputable def math_Signbit (a0 : Nat) : Option (Bool) :=
  (some (decide ((IntKind.i64.wrap (Int.ofNat a0)) < (0:Int))))

noncomputable def ref01_Ahead_j0 (a0 : Nat) (a1 : Nat) (_s : Unit) : Option (Bool) :=
  (some (fLt a0 a1))
noncomputable def ref01_Ahead (a0 : Nat) (a1 : Nat) : Option (Bool) :=
  (bif (fNe a0 a0) then (some false) else (bif (fNe a1 a1) then (some true) else (joinO (bif (fEq a0 (0:Nat)) then (bif (fEq a1 (0:Nat)) then ((math_Signbit a0).bind fun t204 => (bif t204 then ((math_Signbit a1).bind fun t210 => (inrO (some (!t210)))) else (inrO (some false)))) else (some (Sum.inl ()))) else (some (Sum.inl ()))) (ref01_Ahead_j0 a0 a1))))

noncomputable def ref01_Same (a0 : Nat) (a1 : Nat) : Option (Bool) :=
  ((ref01_Ahead a0 a1).bind fun t191 => (bif (!t191) then ((ref01_Ahead a1 a0).bind fun t197 => (some (!t197))) else (some false)))

noncomputable def ref11_SameHold_l1 (a0 : api_Hold) (a1 : api_Hold) (z449 : (Int)) : Option ((Int) ⊕ (Unit ⊕ (Bool))) :=
  (bif (decide (z449 < ((a0.Gets).length : Int))) then ((geto a0.Gets z449).bind fun x459 => ((geto a1.Gets z449).bind fun x464 => ((ref01_Same x459 x464).bind fun t469 => (bif (!t469) then (inrO (inrO (some false))) else (some (Sum.inl (IntKind.i64.wrap (z449 + (1:Int))))))))) else (inrO (some (Sum.inl ()))))
noncomputable def ref11_SameHold_l3 (a0 : api_Hold) (a1 : api_Hold) (z527 : (Int)) : Option ((Int) ⊕ (Unit ⊕ (Bool))) :=
  (bif (decide (z527 < ((a0.Scans).length : Int))) then ((geto a0.Scans z527).bind fun x537 => ((geto a1.Scans z527).bind fun x542 => ((ref01_Same x537.1 x542.1).bind fun t547 => (bif (!t547) then (inrO (inrO (some false))) else ((ref01_Same x537.2 x542.2).bind fun t553 => (bif (!t553) then (inrO (inrO (some false))) else (some (Sum.inl (IntKind.i64.wrap (z527 + (1:Int))))))))))) else (inrO (some (Sum.inl ()))))
noncomputable def ref11_SameHold_l4 (a0 : api_Hold) (a1 : api_Hold) (z599 : (Int)) : Option ((Int) ⊕ (Bool)) :=
  (bif (decide (z599 < ((a0.Puts).length : Int))) then ((geto a0.Puts z599).bind fun x609 => ((geto a1.Puts z599).bind fun x614 => ((ref01_Same x609 x614).bind fun t619 => (bif (!t619) then (inrO (some false)) else (some (Sum.inl (IntKind.i64.wrap (z599 + (1:Int))))))))) else (inrO (some true)))
noncomputable def ref11_SameHold_j2 (a0 : api_Hold) (a1 : api_Hold) (_s : Unit) : Option (Bool) :=
  (loopO (ref11_SameHold_l4 a0 a1) (0:Int))
noncomputable def ref11_SameHold_j0 (a0 : api_Hold) (a1 : api_Hold) (_s : Unit) : Option (Bool) :=
  (joinO (loopO (ref11_SameHold_l3 a0 a1) (0:Int)) (ref11_SameHold_j2 a0 a1))
noncomputable def ref11_SameHold (a0 : api_Hold) (a1 : api_Hold) : Option (Bool) :=
  (bif (!((a0.ID.Session == a1.ID.Session) && (a0.ID.Seq == a1.ID.Seq))) then (some false) else (bif (a0.Epoch != a1.Epoch) then (some false) else (bif (((a0.Gets).length : Int) != ((a1.Gets).length : Int)) then (some false) else (bif (((a0.Scans).length : Int) != ((a1.Scans).length : Int)) then (some false) else (bif (((a0.Puts).length : Int) != ((a1.Puts).length : Int)) then (some false) else (bif (!(sEq (toStr a0.Data) (toStr a1.Data))) then (some false) else (joinO (loopO (ref11_SameHold_l1 a0 a1) (0:Int)) (ref11_SameHold_j0 a0 a1))))))))

noncomputable def ref13_SameWrites_l0 (a0 : (List api_Write)) (a1 : (List api_Write)) (z393 : (Int)) : Option ((Int) ⊕ (Bool)) :=
  (bif (decide (z393 < ((a0).length : Int))) then ((geto a0 z393).bind fun x403 => ((geto a1 z393).bind fun x414 => ((ref01_Same x403.At x414.At).bind fun t425 => (bif (!t425) then (inrO (some false)) else (bif (!(x403.Del == x414.Del)) then (inrO (some false)) else (bif (!(sEq (toStr x403.Val) (toStr x414.Val))) then (inrO (some false)) else (some (Sum.inl (IntKind.i64.wrap (z393 + (1:Int))))))))))) else (inrO (some true)))
noncomputable def ref13_SameWrites (a0 : (List api_Write)) (a1 : (List api_Write)) : Option (Bool) :=
  (bif (((a0).length : Int) != ((a1).length : Int)) then (some false) else (loopO (ref13_SameWrites_l0 a0 a1) (0:Int)))

noncomputable def ref11_SameGots_l0 (a0 : (List api_Got)) (a1 : (List api_Got)) (z326 : (Int)) : Option ((Int) ⊕ (Bool)) :=
  (bif (decide (z326 < ((a0).length : Int))) then ((geto a0 z326).bind fun x336 => ((geto a1 z326).bind fun x347 => (bif (!(x336.Has == x347.Has)) then (inrO (some false)) else (bif (!(sEq (toStr x336.Val) (toStr x347.Val))) then (inrO (some false)) else (some (Sum.inl (IntKind.i64.wrap (z326 + (1:Int))))))))) else (inrO (some true)))
noncomputable def ref11_SameGots (a0 : (List api_Got)) (a1 : (List api_Got)) : Option (Bool) :=
  (bif (((a0).length : Int) != ((a1).length : Int)) then (some false) else (loopO (ref11_SameGots_l0 a0 a1) (0:Int)))

noncomputable def ref11_SamePairs_l0 (a0 : (List api_Pair)) (a1 : (List api_Pair)) (z419 : (Int)) : Option ((Int) ⊕ (Bool)) :=
  (bif (decide (z419 < ((a0).length : Int))) then ((geto a0 z419).bind fun x429 => ((geto a1 z419).bind fun x440 => ((ref01_Same x429.At x440.At).bind fun t451 => (bif (!t451) then (inrO (some false)) else (bif (!(sEq (toStr x429.Val) (toStr x440.Val))) then (inrO (some false)) else (some (Sum.inl (IntKind.i64.wrap (z419 + (1:Int)))))))))) else (inrO (some true)))
noncomputable def ref11_SamePairs (a0 : (List api_Pair)) (a1 : (List api_Pair)) : Option (Bool) :=
  (bif (((a0).length : Int) != ((a1).length : Int)) then (some false) else (loopO (ref11_SamePairs_l0 a0 a1) (0:Int)))

noncomputable def ref11_SameReply_l0 (a0 : api_Reply) (a1 : api_Reply) (z371 : (Int)) : Option ((Int) ⊕ (Bool)) :=
  (bif (decide (z371 < ((a0.Scans).length : Int))) then ((geto a0.Scans z371).bind fun x381 => ((geto a1.Scans z371).bind fun x392 => ((ref11_SamePairs x381 x392).bind fun t403 => (bif (!t403) then (inrO (some false)) else (some (Sum.inl (IntKind.i64.wrap (z371 + (1:Int))))))))) else (inrO (some true)))
noncomputable def ref11_SameReply (a0 : api_Reply) (a1 : api_Reply) : Option (Bool) :=
  (bif (a0.E != a1.E) then (some false) else (bif (a0.Epoch != a1.Epoch) then (some false) else (bif (a0.Index != a1.Index) then (some false) else ((ref11_SameGots a0.Gots a1.Gots).bind fun t305 => (bif (!t305) then (some false) else (bif (((a0.Scans).length : Int) != ((a1.Scans).length : Int)) then (some false) else (loopO (ref11_SameReply_l0 a0 a1) (0:Int))))))))

noncomputable def ref11_SameRule (a0 : api_Rule) (a1 : api_Rule) : Option (Bool) :=
  (bif (a0.ID == a1.ID) then (bif (a0.From == a1.From) then (bif (a0.To == a1.To) then ((ref01_Same a0.Lo a1.Lo).bind fun t214 => (bif t214 then ((ref01_Same a0.Hi a1.Hi).bind fun t220 => (bif t220 then (bif (a0.Authority == a1.Authority) then (some (a0.Quota == a1.Quota)) else (some false)) else (some false))) else (some false))) else (some false)) else (some false)) else (some false))

noncomputable def law13_same_l0 (a0 : api_Command) (a1 : api_Command) (z401 : (Int)) : Option ((Int) ⊕ (Bool)) :=
  (bif (decide (z401 < ((a0.Parts).length : Int))) then ((geto a0.Parts z401).bind fun x411 => ((geto a1.Parts z401).bind fun x422 => (bif (x411.Shard != x422.Shard) then (inrO (some false)) else ((ref13_SameWrites x411.Writes x422.Writes).bind fun t434 => (bif (!t434) then (inrO (some false)) else (some (Sum.inl (IntKind.i64.wrap (z401 + (1:Int)))))))))) else (inrO (some true)))
noncomputable def law13_same (a0 : api_Command) (a1 : api_Command) : Option (Bool) :=
  (bif (a0.Kind != a1.Kind) then (some false) else (bif (!((a0.ID.Session == a1.ID.Session) && (a0.ID.Seq == a1.ID.Seq))) then (some false) else (bif (a0.Epoch != a1.Epoch) then (some false) else (bif (a0.Index != a1.Index) then (some false) else (bif (a0.E != a1.E) then (some false) else ((ref11_SameHold a0.Hold a1.Hold).bind fun t313 => (bif (!t313) then (some false) else ((ref13_SameWrites a0.Writes a1.Writes).bind fun t319 => (bif (!t319) then (some false) else ((ref11_SameReply a0.R a1.R).bind fun t325 => (bif (!t325) then (some false) else (bif (a0.Shards != a1.Shards) then (some false) else (bif (((a0.Parts).length : Int) != ((a1.Parts).length : Int)) then (some false) else ((ref11_SameRule a0.Rule a1.Rule).bind fun t333 => (bif (!t333) then (some false) else (bif (!(a0.On == a1.On)) then (some false) else (loopO (law13_same_l0 a0 a1) (0:Int))))))))))))))))))

noncomputable def law13_CommandBytes_l0 (s : (ref12_Tape × Int)) : Option ((ref12_Tape × Int) ⊕ (Bool)) :=
  match s with | (z874, z875) => (bif (decide (z875 < (6:Int))) then ((ref13_OfCommand z874).bind fun t886 => ((command_Encode t886.1).bind fun t938 => ((command_Decode t938).bind fun t948 => ((ref13_Command t886.1).bind fun t1000 => (bif (!(sEq (toStr t938) (toStr t1000))) then (inrO (some false)) else (bif (t948.2 != (0:Int)) then (inrO (some false)) else ((law13_same t886.1 t948.1).bind fun t1041 => (bif (!t1041) then (inrO (some false)) else (some (Sum.inl (t886.2, (IntKind.i64.wrap (z875 + (1:Int)))))))))))))) else (inrO (some true)))
noncomputable def law13_CommandBytes (a0 : (List Int)) : Option (Bool) :=
  (law13_awake.bind fun t525 => (bif (!t525) then (law13_awake.bind fun t531 => (some t531)) else (bif (decide (((a0).length : Int) > (300:Int))) then (law13_awake.bind fun t537 => (some t537)) else (loopO (law13_CommandBytes_l0) (({ L := a0, I := (0:Int) } : ref12_Tape), (0:Int))))))

noncomputable def law13_CommandApart (a0 : (List Int)) (a1 : (List Int)) : Option (Bool) :=
  (law13_awake.bind fun t195 => (bif (!t195) then (law13_awake.bind fun t201 => (some t201)) else (bif (decide (((a0).length : Int) > (100:Int))) then (law13_awake.bind fun t207 => (some t207)) else (bif (decide (((a1).length : Int) > (100:Int))) then (law13_awake.bind fun t213 => (some t213)) else ((ref13_OfCommand ({ L := a0, I := (0:Int) } : ref12_Tape)).bind fun t230 => ((ref13_OfCommand ({ L := a1, I := (0:Int) } : ref12_Tape)).bind fun t266 => ((command_Encode t230.1).bind fun t318 => ((command_Encode t266.1).bind fun t341 => ((law13_same t230.1 t266.1).bind fun t380 => (some ((sEq (toStr t318) (toStr t341)) == t380)))))))))))
end Go.Proofs.Ytijcfglomdfglaa
