/- The models of the Go functions: plain Lean, no memory. -/
import Derived.Test.YtijcfglomdfglaaGvSlice
set_option linter.unusedVariables false
set_option linter.unusedSimpArgs false
set_option maxRecDepth 100000
set_option maxHeartbeats 4000000
namespace Go.Proofs.Ytijcfglomdfglaa
open Go Go.V
structure api_Got where
  Has : Bool
  Val : (List Int)

structure api_Pair where
  At : Nat
  Val : (List Int)

structure api_Reply where
  E : Int
  Epoch : Int
  Index : Int
  Gots : (List api_Got)
  Scans : (List (List api_Pair))

structure api_ID where
  Session : Int
  Seq : Int

structure api_Hold where
  ID : api_ID
  Epoch : Int
  Gets : (List Nat)
  Scans : (List (Nat × Nat))
  Puts : (List Nat)
  Data : (List Int)

structure api_Write where
  At : Nat
  Del : Bool
  Val : (List Int)

structure api_Part where
  Shard : Int
  Writes : (List api_Write)

structure api_Rule where
  ID : Int
  From : Int
  To : Int
  Lo : Nat
  Hi : Nat
  Authority : Int
  Quota : Int

structure api_Command where
  Kind : Int
  ID : api_ID
  Epoch : Int
  Index : Int
  E : Int
  Hold : api_Hold
  Writes : (List api_Write)
  R : api_Reply
  Shards : Int
  Parts : (List api_Part)
  Rule : api_Rule
  On : Bool

structure octet_Writer where
  p : (List Int)

structure ref12_Tape where
  L : (List Int)
  I : Int

structure octet_Reader where
  p : (List Int)
  bad : Bool

noncomputable def octet_Writer_lay (a0 : octet_Writer) (a1 : (List Int)) : Option (octet_Writer) :=
  (gd (room a0.p a1) (some ({ p := (a0.p ++ a1) } : octet_Writer)))

noncomputable def octet_Writer_Num_l0 (a2 : Int) (a1 : Int) (s : (octet_Writer × Int)) : Option ((octet_Writer × Int) ⊕ (octet_Writer)) :=
  match s with | (z131, z132) => (bif (decide (z132 < a2)) then (gd (decide ((0:Int) ≤ (IntKind.i64.wrap ((8:Int) * z132)))) ((octet_Writer_lay z131 ([(IntKind.u8.wrap (iShr .u64 a1 (IntKind.i64.wrap ((8:Int) * z132))))])).bind fun t150 => (some (Sum.inl (t150, (IntKind.i64.wrap (z132 + (1:Int)))))))) else (inrO (some z131)))
noncomputable def octet_Writer_Num (a0 : octet_Writer) (a1 : Int) (a2 : Int) : Option (octet_Writer) :=
  (loopO (octet_Writer_Num_l0 a2 a1) (a0, (0:Int)))

noncomputable def octet_Writer_Done (a0 : octet_Writer) : Option ((List Int)) :=
  (some a0.p)

noncomputable def math_IsNaN (a0 : Nat) : Option (Bool) :=
  (some (fNe a0 a0))

noncomputable def number_Rank (a0 : Nat) : Option (Int) :=
  ((math_IsNaN a0).bind fun t107 => (bif t107 then (some (18446744073709551615:Int)) else (bif ((iShr .u64 (Int.ofNat a0) (63:Int)) == (1:Int)) then (some (bXor .u64 ((18446744073709551615):Int) (Int.ofNat a0))) else (some (bOr .u64 (Int.ofNat a0) (9223372036854775808:Int))))))

noncomputable def octet_Writer_Bytes (a0 : octet_Writer) (a1 : (List Int)) : Option (octet_Writer) :=
  ((octet_Writer_Num a0 (IntKind.u64.wrap ((a1).length : Int)) (4:Int)).bind fun t367 => ((octet_Writer_lay t367 a1).bind fun t372 => (some t372)))

noncomputable def locks_Lay_l1 (a1 : api_Hold) (s : (octet_Writer × Int)) : Option ((octet_Writer × Int) ⊕ (octet_Writer)) :=
  match s with | (z422, z423) => (bif (decide (z423 < ((a1.Gets).length : Int))) then ((geto a1.Gets z423).bind fun x433 => ((number_Rank x433).bind fun t438 => ((octet_Writer_Num z422 t438 (8:Int)).bind fun t443 => (some (Sum.inl (t443, (IntKind.i64.wrap (z423 + (1:Int))))))))) else (inrO (some z422)))
noncomputable def locks_Lay_l3 (a1 : api_Hold) (s : (octet_Writer × Int)) : Option ((octet_Writer × Int) ⊕ (octet_Writer)) :=
  match s with | (z527, z528) => (bif (decide (z528 < ((a1.Scans).length : Int))) then ((geto a1.Scans z528).bind fun x538 => ((number_Rank x538.1).bind fun t550 => ((octet_Writer_Num z527 t550 (8:Int)).bind fun t555 => ((number_Rank x538.2).bind fun t560 => ((octet_Writer_Num t555 t560 (8:Int)).bind fun t565 => (some (Sum.inl (t565, (IntKind.i64.wrap (z528 + (1:Int))))))))))) else (inrO (some z527)))
noncomputable def locks_Lay_l5 (a1 : api_Hold) (s : (octet_Writer × Int)) : Option ((octet_Writer × Int) ⊕ (octet_Writer)) :=
  match s with | (z615, z616) => (bif (decide (z616 < ((a1.Puts).length : Int))) then ((geto a1.Puts z616).bind fun x626 => ((number_Rank x626).bind fun t631 => ((octet_Writer_Num z615 t631 (8:Int)).bind fun t636 => (some (Sum.inl (t636, (IntKind.i64.wrap (z616 + (1:Int))))))))) else (inrO (some z615)))
noncomputable def locks_Lay_j4 (a1 : api_Hold) (z641 : (octet_Writer)) : Option (octet_Writer) :=
  ((octet_Writer_Bytes z641 a1.Data).bind fun t647 => (some t647))
noncomputable def locks_Lay_j2 (a1 : api_Hold) (z570 : (octet_Writer)) : Option (octet_Writer) :=
  ((octet_Writer_Num z570 (IntKind.u64.wrap ((a1.Puts).length : Int)) (4:Int)).bind fun t576 => (((loopO (locks_Lay_l5 a1) (t576, (0:Int)))).bind (locks_Lay_j4 a1)))
noncomputable def locks_Lay_j0 (a1 : api_Hold) (z448 : (octet_Writer)) : Option (octet_Writer) :=
  ((octet_Writer_Num z448 (IntKind.u64.wrap ((a1.Scans).length : Int)) (4:Int)).bind fun t454 => (((loopO (locks_Lay_l3 a1) (t454, (0:Int)))).bind (locks_Lay_j2 a1)))
noncomputable def locks_Lay (a0 : octet_Writer) (a1 : api_Hold) : Option (octet_Writer) :=
  ((octet_Writer_Num a0 a1.ID.Session (8:Int)).bind fun t368 => ((octet_Writer_Num t368 a1.ID.Seq (8:Int)).bind fun t373 => ((octet_Writer_Num t373 a1.Epoch (8:Int)).bind fun t378 => ((octet_Writer_Num t378 (IntKind.u64.wrap ((a1.Gets).length : Int)) (4:Int)).bind fun t383 => (((loopO (locks_Lay_l1 a1) (t383, (0:Int)))).bind (locks_Lay_j0 a1))))))

noncomputable def octet_Writer_Flag (a0 : octet_Writer) (a1 : Bool) : Option (octet_Writer) :=
  (bif a1 then ((octet_Writer_Num a0 (1:Int) (1:Int)).bind fun t148 => (some t148)) else ((octet_Writer_Num a0 (0:Int) (1:Int)).bind fun t153 => (some t153)))

noncomputable def command_writes_l0 (a1 : (List api_Write)) (s : (octet_Writer × Int)) : Option ((octet_Writer × Int) ⊕ (octet_Writer)) :=
  match s with | (z335, z336) => (bif (decide (z336 < ((a1).length : Int))) then ((geto a1 z336).bind fun x346 => ((number_Rank x346.At).bind fun t365 => ((octet_Writer_Num z335 t365 (8:Int)).bind fun t370 => ((octet_Writer_Flag t370 x346.Del).bind fun t375 => ((octet_Writer_Bytes t375 x346.Val).bind fun t380 => (some (Sum.inl (t380, (IntKind.i64.wrap (z336 + (1:Int))))))))))) else (inrO (some z335)))
noncomputable def command_writes (a0 : octet_Writer) (a1 : (List api_Write)) : Option (octet_Writer) :=
  ((octet_Writer_Num a0 (IntKind.u64.wrap ((a1).length : Int)) (4:Int)).bind fun t248 => (loopO (command_writes_l0 a1) (t248, (0:Int))))

noncomputable def command_LayReply_l1 (a1 : api_Reply) (s : (octet_Writer × Int)) : Option ((octet_Writer × Int) ⊕ (octet_Writer)) :=
  match s with | (z903, z904) => (bif (decide (z904 < ((a1.Gots).length : Int))) then ((geto a1.Gots z904).bind fun x914 => ((octet_Writer_Flag z903 x914.Has).bind fun t933 => ((octet_Writer_Bytes t933 x914.Val).bind fun t938 => (some (Sum.inl (t938, (IntKind.i64.wrap (z904 + (1:Int))))))))) else (inrO (some z903)))
noncomputable def command_LayReply_l3 (x1235 : (List api_Pair)) (z1225 : Int) (s : (octet_Writer × Int)) : Option ((octet_Writer × Int) ⊕ ((octet_Writer × Int) ⊕ (octet_Writer))) :=
  match s with | (z1323, z1324) => (bif (decide (z1324 < ((x1235).length : Int))) then ((geto x1235 z1324).bind fun x1334 => ((number_Rank x1334.At).bind fun t1353 => ((octet_Writer_Num z1323 t1353 (8:Int)).bind fun t1358 => ((octet_Writer_Bytes t1358 x1334.Val).bind fun t1363 => (some (Sum.inl (t1363, (IntKind.i64.wrap (z1324 + (1:Int)))))))))) else (inrO (some (Sum.inl (z1323, (IntKind.i64.wrap (z1225 + (1:Int))))))))
noncomputable def command_LayReply_l2 (a1 : api_Reply) (s : (octet_Writer × Int)) : Option ((octet_Writer × Int) ⊕ (octet_Writer)) :=
  match s with | (z1224, z1225) => (bif (decide (z1225 < ((a1.Scans).length : Int))) then ((geto a1.Scans z1225).bind fun x1235 => ((octet_Writer_Num z1224 (IntKind.u64.wrap ((x1235).length : Int)) (4:Int)).bind fun t1246 => (loopO (command_LayReply_l3 x1235 z1225) (t1246, (0:Int))))) else (inrO (some z1224)))
noncomputable def command_LayReply_j0 (a1 : api_Reply) (z943 : (octet_Writer)) : Option (octet_Writer) :=
  ((octet_Writer_Num z943 (IntKind.u64.wrap ((a1.Scans).length : Int)) (4:Int)).bind fun t949 => (loopO (command_LayReply_l2 a1) (t949, (0:Int))))
noncomputable def command_LayReply (a0 : octet_Writer) (a1 : api_Reply) : Option (octet_Writer) :=
  ((octet_Writer_Num a0 (IntKind.u64.wrap a1.E) (1:Int)).bind fun t821 => ((octet_Writer_Num t821 a1.Epoch (8:Int)).bind fun t826 => ((octet_Writer_Num t826 a1.Index (8:Int)).bind fun t831 => ((octet_Writer_Num t831 (IntKind.u64.wrap ((a1.Gots).length : Int)) (4:Int)).bind fun t836 => (((loopO (command_LayReply_l1 a1) (t836, (0:Int)))).bind (command_LayReply_j0 a1))))))

noncomputable def command_layRule (a0 : octet_Writer) (a1 : api_Rule) : Option (octet_Writer) :=
  ((octet_Writer_Num a0 a1.ID (8:Int)).bind fun t351 => ((octet_Writer_Num t351 (IntKind.u64.wrap a1.From) (1:Int)).bind fun t356 => ((octet_Writer_Num t356 (IntKind.u64.wrap a1.To) (1:Int)).bind fun t361 => ((number_Rank a1.Lo).bind fun t366 => ((octet_Writer_Num t361 t366 (8:Int)).bind fun t371 => ((number_Rank a1.Hi).bind fun t376 => ((octet_Writer_Num t371 t376 (8:Int)).bind fun t381 => ((octet_Writer_Num t381 a1.Authority (8:Int)).bind fun t386 => ((octet_Writer_Num t386 (IntKind.u64.wrap a1.Quota) (4:Int)).bind fun t391 => (some t391))))))))))

noncomputable def command_Encode_l1 (a0 : api_Command) (s : (octet_Writer × Int)) : Option ((octet_Writer × Int) ⊕ (octet_Writer)) :=
  match s with | (z556, z557) => (bif (decide (z557 < ((a0.Parts).length : Int))) then ((geto a0.Parts z557).bind fun x567 => ((octet_Writer_Num z556 (IntKind.u64.wrap x567.Shard) (1:Int)).bind fun t586 => ((command_writes t586 x567.Writes).bind fun t591 => (some (Sum.inl (t591, (IntKind.i64.wrap (z557 + (1:Int))))))))) else (inrO (some z556)))
noncomputable def command_Encode_j0 (a0 : api_Command) (z596 : (octet_Writer)) : Option ((List Int)) :=
  ((command_LayReply z596 a0.R).bind fun t602 => ((octet_Writer_Done t602).bind fun t607 => (some t607)))
noncomputable def command_Encode (a0 : api_Command) : Option ((List Int)) :=
  ((octet_Writer_Num ({ p := [] } : octet_Writer) (IntKind.u64.wrap a0.Kind) (1:Int)).bind fun t389 => (bif (a0.Kind == (1:Int)) then ((octet_Writer_Num t389 a0.Epoch (8:Int)).bind fun t395 => ((octet_Writer_Done t395).bind fun t400 => (some t400))) else (bif (a0.Kind == (2:Int)) then ((locks_Lay t389 a0.Hold).bind fun t408 => ((octet_Writer_Done t408).bind fun t413 => (some t413))) else (bif (a0.Kind == (3:Int)) then (((octet_Writer_Num t389 a0.ID.Session (8:Int)).bind fun t421 => ((octet_Writer_Num t421 a0.ID.Seq (8:Int)).bind fun t426 => (some t426))).bind fun z431 => ((octet_Writer_Num z431 (IntKind.u64.wrap a0.E) (1:Int)).bind fun t436 => ((octet_Writer_Num t436 a0.Epoch (8:Int)).bind fun t441 => ((octet_Writer_Num t441 a0.Index (8:Int)).bind fun t446 => ((command_writes t446 a0.Writes).bind fun t451 => ((octet_Writer_Done t451).bind fun t456 => (some t456))))))) else (bif (a0.Kind == (4:Int)) then (((octet_Writer_Num t389 a0.ID.Session (8:Int)).bind fun t464 => ((octet_Writer_Num t464 a0.ID.Seq (8:Int)).bind fun t469 => (some t469))).bind fun z474 => ((octet_Writer_Num z474 a0.Epoch (8:Int)).bind fun t479 => ((octet_Writer_Num t479 a0.Shards (2:Int)).bind fun t484 => ((octet_Writer_Num t484 (IntKind.u64.wrap ((a0.Parts).length : Int)) (4:Int)).bind fun t489 => (((loopO (command_Encode_l1 a0) (t489, (0:Int)))).bind (command_Encode_j0 a0)))))) else (bif (a0.Kind == (5:Int)) then (((octet_Writer_Num t389 a0.ID.Session (8:Int)).bind fun t615 => ((octet_Writer_Num t615 a0.ID.Seq (8:Int)).bind fun t620 => (some t620))).bind fun z625 => ((octet_Writer_Done z625).bind fun t630 => (some t630))) else (bif (a0.Kind == (6:Int)) then ((command_layRule t389 a0.Rule).bind fun t638 => ((octet_Writer_Flag t638 a0.On).bind fun t643 => ((octet_Writer_Done t643).bind fun t648 => (some t648)))) else (bif (a0.Kind == (7:Int)) then (((octet_Writer_Num t389 a0.ID.Session (8:Int)).bind fun t656 => ((octet_Writer_Num t656 a0.ID.Seq (8:Int)).bind fun t661 => (some t661))).bind fun z666 => ((octet_Writer_Num z666 a0.Epoch (8:Int)).bind fun t671 => ((command_layRule t671 a0.Rule).bind fun t676 => ((command_writes t676 a0.Writes).bind fun t681 => ((command_LayReply t681 a0.R).bind fun t686 => ((octet_Writer_Done t686).bind fun t691 => (some t691))))))) else ((octet_Writer_Done t389).bind fun t698 => (some t698))))))))))

noncomputable def law13_awake : Option (Bool) :=
  ((command_Encode ({ Kind := (1:Int), ID := ({ Session := (0:Int), Seq := (0:Int) } : api_ID), Epoch := (3:Int), Index := (0:Int), E := (0:Int), Hold := ({ ID := ({ Session := (0:Int), Seq := (0:Int) } : api_ID), Epoch := (0:Int), Gets := [], Scans := [], Puts := [], Data := [] } : api_Hold), Writes := [], R := ({ E := (0:Int), Epoch := (0:Int), Index := (0:Int), Gots := [], Scans := [] } : api_Reply), Shards := (0:Int), Parts := [], Rule := ({ ID := (0:Int), From := (0:Int), To := (0:Int), Lo := (0:Nat), Hi := (0:Nat), Authority := (0:Int), Quota := (0:Int) } : api_Rule), On := false } : api_Command)).bind fun t49 => (bif (sEq (toStr t49) (ByteArray.mk #[1, 3, 0, 0, 0, 0, 0, 0, 0])) then (some true) else (some false)))

noncomputable def ref12_Tape_Next (a0 : ref12_Tape) (a1 : Int) : Option (Int × ref12_Tape) :=
  (bif (decide (a0.I ≥ ((a0.L).length : Int))) then (some ((0:Int), a0)) else ((geto a0.L (IntKind.i64.wrap ((IntKind.i64.wrap (a0.I + (1:Int))) - (1:Int)))).bind fun x346 => (gd (!(a1 == (0:Int))) (some ((Int.tmod (IntKind.i64.wrap x346) a1), ({ L := a0.L, I := (IntKind.i64.wrap (a0.I + (1:Int))) } : ref12_Tape))))))

noncomputable def ref12_Tape_Val_l0 (t529 : (Int × ref12_Tape)) (s : (ref12_Tape × (List Int) × Int)) : Option ((ref12_Tape × (List Int) × Int) ⊕ ((List Int) × ref12_Tape)) :=
  match s with | (z584, z585, z588) => (bif (decide (z588 < t529.1)) then ((ref12_Tape_Next z584 (26:Int)).bind fun t598 => (gd (room z585 ([(IntKind.u8.wrap (IntKind.i64.wrap ((97:Int) + t598.1)))])) (some (Sum.inl (t598.2, (z585 ++ ([(IntKind.u8.wrap (IntKind.i64.wrap ((97:Int) + t598.1)))])), (IntKind.i64.wrap (z588 + (1:Int)))))))) else (inrO (some (z585, z584))))
noncomputable def ref12_Tape_Val (a0 : ref12_Tape) : Option ((List Int) × ref12_Tape) :=
  ((ref12_Tape_Next a0 (4:Int)).bind fun t529 => (loopO (ref12_Tape_Val_l0 t529) (t529.2, [], (0:Int))))

noncomputable def ref12_small (a0 : Int) : Option (Nat) :=
  ((geto ([(0:Nat), (4607182418800017408:Nat), (13830554455654793216:Nat), (4612811918334230528:Nat), (9094988921128908188:Nat), (18318360957983683996:Nat), (4602678819172646912:Nat), (4613937818241073152:Nat)]) (Int.tmod a0 (8:Int))).bind fun x619 => (some x619))

noncomputable def ref12_Tape_Float (a0 : ref12_Tape) : Option (Nat × ref12_Tape) :=
  ((ref12_Tape_Next a0 (8:Int)).bind fun t610 => ((ref12_small (IntKind.u8.wrap t610.1)).bind fun t615 => (some (t615, t610.2))))

noncomputable def ref13_OfReply_l2 (t1374 : (Int × ref12_Tape)) (s : ((List api_Got) × ref12_Tape × Int)) : Option (((List api_Got) × ref12_Tape × Int) ⊕ (ref12_Tape × (List api_Got))) :=
  match s with | (z1471, z1474, z1475) => (bif (decide (z1475 < t1374.1)) then ((ref12_Tape_Next z1474 (2:Int)).bind fun t1486 => ((ref12_Tape_Val t1486.2).bind fun t1491 => (gd (room z1471 ([({ Has := (t1486.1 == (0:Int)), Val := t1491.1 } : api_Got)])) (some (Sum.inl ((z1471 ++ ([({ Has := (t1486.1 == (0:Int)), Val := t1491.1 } : api_Got)])), t1491.2, (IntKind.i64.wrap (z1475 + (1:Int))))))))) else (inrO (some (z1474, z1471))))
noncomputable def ref13_OfReply_l5 (t2031 : (Int × ref12_Tape)) (s : (ref12_Tape × Int × (List api_Pair))) : Option ((ref12_Tape × Int × (List api_Pair)) ⊕ (ref12_Tape × (List api_Pair))) :=
  match s with | (z2122, z2123, z2124) => (bif (decide (z2123 < t2031.1)) then ((ref12_Tape_Float z2122).bind fun t2137 => ((ref12_Tape_Val t2137.2).bind fun t2142 => (gd (room z2124 ([({ At := t2137.1, Val := t2142.1 } : api_Pair)])) (some (Sum.inl (t2142.2, (IntKind.i64.wrap (z2123 + (1:Int))), (z2124 ++ ([({ At := t2137.1, Val := t2142.1 } : api_Pair)])))))))) else (inrO (some (z2122, z2124))))
noncomputable def ref13_OfReply_j4 (z2015 : (List (List api_Pair))) (z2019 : Int) (s : (ref12_Tape × (List api_Pair))) : Option (((List (List api_Pair)) × ref12_Tape × Int) ⊕ (api_Reply × ref12_Tape)) :=
  match s with | (z2163, z2166) => (gd (room z2015 ([z2166])) (some (Sum.inl ((z2015 ++ ([z2166])), z2163, (IntKind.i64.wrap (z2019 + (1:Int)))))))
noncomputable def ref13_OfReply_l3 (t1525 : (Int × ref12_Tape)) (z1366 : Int) (z1367 : Int) (z1368 : Int) (z1517 : (List api_Got)) (s : ((List (List api_Pair)) × ref12_Tape × Int)) : Option (((List (List api_Pair)) × ref12_Tape × Int) ⊕ (api_Reply × ref12_Tape)) :=
  match s with | (z2015, z2018, z2019) => (bif (decide (z2019 < (IntKind.i64.wrap (Int.tdiv t1525.1 (2:Int))))) then ((ref12_Tape_Next z2018 (3:Int)).bind fun t2031 => (((loopO (ref13_OfReply_l5 t2031) (t2031.2, (0:Int), []))).bind (ref13_OfReply_j4 z2015 z2019))) else (inrO (some (({ E := z1366, Epoch := z1367, Index := z1368, Gots := z1517, Scans := z2015 } : api_Reply), z2018))))
noncomputable def ref13_OfReply_j1 (z1366 : Int) (z1367 : Int) (z1368 : Int) (s : (ref12_Tape × (List api_Got))) : Option (api_Reply × ref12_Tape) :=
  match s with | (z1514, z1517) => ((ref12_Tape_Next z1514 (3:Int)).bind fun t1525 => (loopO (ref13_OfReply_l3 t1525 z1366 z1367 z1368 z1517) ([], t1525.2, (0:Int))))
noncomputable def ref13_OfReply_j0 (s : (ref12_Tape × Int × Int × Int)) : Option (api_Reply × ref12_Tape) :=
  match s with | (z1363, z1366, z1367, z1368) => ((ref12_Tape_Next z1363 (3:Int)).bind fun t1374 => (((loopO (ref13_OfReply_l2 t1374) ([], t1374.2, (0:Int)))).bind (ref13_OfReply_j1 z1366 z1367 z1368)))
noncomputable def ref13_OfReply (a0 : ref12_Tape) : Option (api_Reply × ref12_Tape) :=
  ((((ref12_Tape_Next a0 (6:Int)).bind fun t1264 => ((geto ([(0:Int), (0:Int), (0:Int), (8:Int), (9:Int), (3:Int)]) t1264.1).bind fun x1269 => ((ref12_Tape_Next t1264.2 (4:Int)).bind fun t1274 => ((ref12_Tape_Next t1274.2 (9:Int)).bind fun t1279 => (some (t1279.2, x1269, (IntKind.u64.wrap t1274.1), (IntKind.u64.wrap t1279.1)))))))).bind (ref13_OfReply_j0))

noncomputable def octet_Read (a0 : (List Int)) : Option (octet_Reader) :=
  (some ({ p := a0, bad := false } : octet_Reader))

noncomputable def octet_Reader_spoil (a0 : octet_Reader) : Option (octet_Reader) :=
  (some ({ p := a0.p, bad := true } : octet_Reader))

noncomputable def octet_Reader_Num_l1 (a1 : Int) (a0 : octet_Reader) (s : (Int × Int)) : Option ((Int × Int) ⊕ (Int)) :=
  match s with | (z506, z507) => (bif (decide (z506 < (if (8:Int) < a1 then (8:Int) else a1))) then ((geto a0.p z506).bind fun x522 => (gd (decide ((0:Int) ≤ (IntKind.i64.wrap ((8:Int) * z506)))) (some (Sum.inl ((IntKind.i64.wrap (z506 + (1:Int))), (bOr .u64 z507 (iShl .u64 (IntKind.u64.wrap x522) (IntKind.i64.wrap ((8:Int) * z506))))))))) else (inrO (some z507)))
noncomputable def octet_Reader_Num_j0 (a0 : octet_Reader) (a1 : Int) (z528 : (Int)) : Option (Int × octet_Reader) :=
  (gd (fits a0.p a1 (((a0.p).length : Nat) : Int)) (some (z528, ({ p := (subs a0.p a1 (((a0.p).length : Nat) : Int)), bad := a0.bad } : octet_Reader))))
noncomputable def octet_Reader_Num (a0 : octet_Reader) (a1 : Int) : Option (Int × octet_Reader) :=
  (bif a0.bad then ((octet_Reader_spoil a0).bind fun t463 => (some ((0:Int), t463))) else (bif (decide (a1 < (0:Int))) then ((octet_Reader_spoil a0).bind fun t469 => (some ((0:Int), t469))) else (bif (decide (((a0.p).length : Int) < a1)) then ((octet_Reader_spoil a0).bind fun t475 => (some ((0:Int), t475))) else (((loopO (octet_Reader_Num_l1 a1 a0) ((0:Int), (0:Int)))).bind (octet_Reader_Num_j0 a0 a1)))))

noncomputable def octet_Reader_Count (a0 : octet_Reader) (a1 : Int) : Option (Int × octet_Reader) :=
  ((octet_Reader_Num a0 (4:Int)).bind fun t412 => (bif (decide (a1 < (0:Int))) then ((octet_Reader_spoil t412.2).bind fun t418 => (some ((0:Int), t418))) else (bif (decide (t412.1 > (IntKind.u64.wrap a1))) then ((octet_Reader_spoil t412.2).bind fun t424 => (some ((0:Int), t424))) else (some ((IntKind.i64.wrap t412.1), t412.2)))))

noncomputable def octet_Reader_Flag (a0 : octet_Reader) : Option (Bool × octet_Reader) :=
  ((octet_Reader_Num a0 (1:Int)).bind fun t412 => (bif (decide (t412.1 > (1:Int))) then ((octet_Reader_spoil t412.2).bind fun t418 => (some (false, t418))) else (some ((t412.1 == (1:Int)), t412.2))))

noncomputable def octet_Reader_Bytes (a0 : octet_Reader) (a1 : Int) : Option ((List Int) × octet_Reader) :=
  ((octet_Reader_Num a0 (4:Int)).bind fun t459 => (bif t459.2.bad then ((octet_Reader_spoil t459.2).bind fun t469 => (some ([], t469))) else (bif (decide (a1 < (0:Int))) then ((octet_Reader_spoil t459.2).bind fun t476 => (some ([], t476))) else (bif (decide (t459.1 > (IntKind.u64.wrap a1))) then ((octet_Reader_spoil t459.2).bind fun t483 => (some ([], t483))) else (bif (decide (t459.1 > (IntKind.u64.wrap ((t459.2.p).length : Int)))) then ((octet_Reader_spoil t459.2).bind fun t490 => (some ([], t490))) else (gd (fits t459.2.p (0:Int) t459.1) (gd (room ([] : List Int) (subs t459.2.p (0:Int) t459.1)) (gd (fits t459.2.p t459.1 (((t459.2.p).length : Nat) : Int)) (some ((subs t459.2.p (0:Int) t459.1), ({ p := (subs t459.2.p t459.1 (((t459.2.p).length : Nat) : Int)), bad := t459.2.bad } : octet_Reader)))))))))))

noncomputable def number_Back (a0 : Int) : Option (Nat) :=
  (bif ((iShr .u64 a0 (63:Int)) == (1:Int)) then (some (Int.toNat (bAndNot .u64 a0 (9223372036854775808:Int)))) else (some (Int.toNat (bXor .u64 ((18446744073709551615):Int) a0))))

noncomputable def command_ReadReply_l1 (t1324 : (Int × octet_Reader)) (s : ((List api_Got) × octet_Reader × Int)) : Option (((List api_Got) × octet_Reader × Int) ⊕ (octet_Reader × (List api_Got))) :=
  match s with | (z1421, z1424, z1425) => (bif (decide (z1425 < t1324.1)) then ((octet_Reader_Flag z1424).bind fun t1436 => ((octet_Reader_Bytes t1436.2 (256:Int)).bind fun t1441 => (gd (room z1421 ([({ Has := t1436.1, Val := t1441.1 } : api_Got)])) (some (Sum.inl ((z1421 ++ ([({ Has := t1436.1, Val := t1441.1 } : api_Got)])), t1441.2, (IntKind.i64.wrap (z1425 + (1:Int))))))))) else (inrO (some (z1424, z1421))))
noncomputable def command_ReadReply_l4 (t2041 : (Int × octet_Reader)) (s : (octet_Reader × Int × (List api_Pair))) : Option ((octet_Reader × Int × (List api_Pair)) ⊕ (octet_Reader × (List api_Pair))) :=
  match s with | (z2147, z2148, z2149) => (bif (decide (z2148 < t2041.1)) then ((octet_Reader_Num z2147 (8:Int)).bind fun t2162 => ((number_Back t2162.1).bind fun t2167 => ((octet_Reader_Bytes t2162.2 (256:Int)).bind fun t2172 => (gd (room z2149 ([({ At := t2167, Val := t2172.1 } : api_Pair)])) (some (Sum.inl (t2172.2, (IntKind.i64.wrap (z2148 + (1:Int))), (z2149 ++ ([({ At := t2167, Val := t2172.1 } : api_Pair)]))))))))) else (inrO (some (z2147, z2149))))
noncomputable def command_ReadReply_j3 (z2025 : (List (List api_Pair))) (z2029 : Int) (s : (octet_Reader × (List api_Pair))) : Option (((List (List api_Pair)) × octet_Reader × Int) ⊕ (api_Reply × octet_Reader)) :=
  match s with | (z2193, z2196) => (gd (room z2025 ([z2196])) (some (Sum.inl ((z2025 ++ ([z2196])), z2193, (IntKind.i64.wrap (z2029 + (1:Int)))))))
noncomputable def command_ReadReply_l2 (t1475 : (Int × octet_Reader)) (t1298 : (Int × octet_Reader)) (t1303 : (Int × octet_Reader)) (t1308 : (Int × octet_Reader)) (z1467 : (List api_Got)) (s : ((List (List api_Pair)) × octet_Reader × Int)) : Option (((List (List api_Pair)) × octet_Reader × Int) ⊕ (api_Reply × octet_Reader)) :=
  match s with | (z2025, z2028, z2029) => (bif (decide (z2029 < t1475.1)) then ((((octet_Reader_Count z2028 (64:Int)).bind fun t2041 => (loopO (command_ReadReply_l4 t2041) (t2041.2, (0:Int), [])))).bind (command_ReadReply_j3 z2025 z2029)) else (inrO (some (({ E := (IntKind.i64.wrap t1298.1), Epoch := t1303.1, Index := t1308.1, Gots := z1467, Scans := z2025 } : api_Reply), z2028))))
noncomputable def command_ReadReply_j0 (t1298 : (Int × octet_Reader)) (t1303 : (Int × octet_Reader)) (t1308 : (Int × octet_Reader)) (s : (octet_Reader × (List api_Got))) : Option (api_Reply × octet_Reader) :=
  match s with | (z1464, z1467) => ((octet_Reader_Count z1464 (32:Int)).bind fun t1475 => (loopO (command_ReadReply_l2 t1475 t1298 t1303 t1308 z1467) ([], t1475.2, (0:Int))))
noncomputable def command_ReadReply (a0 : octet_Reader) : Option (api_Reply × octet_Reader) :=
  ((octet_Reader_Num a0 (1:Int)).bind fun t1298 => ((octet_Reader_Num t1298.2 (8:Int)).bind fun t1303 => ((octet_Reader_Num t1303.2 (8:Int)).bind fun t1308 => ((((octet_Reader_Count t1308.2 (32:Int)).bind fun t1324 => (loopO (command_ReadReply_l1 t1324) ([], t1324.2, (0:Int))))).bind (command_ReadReply_j0 t1298 t1303 t1308)))))

noncomputable def ref02_Num_l0 (a2 : Int) (s : (Int × (List Int) × Int)) : Option ((Int × (List Int) × Int) ⊕ ((List Int))) :=
  match s with | (z473, z474, z477) => (bif (decide (z477 < a2)) then (gd (room z474 ([(IntKind.u8.wrap (bAnd .u64 z473 (255:Int)))])) (some (Sum.inl ((iShr .u64 z473 (8:Int)), (z474 ++ ([(IntKind.u8.wrap (bAnd .u64 z473 (255:Int)))])), (IntKind.i64.wrap (z477 + (1:Int))))))) else (inrO (some z474)))
noncomputable def ref02_Num (a0 : (List Int)) (a1 : Int) (a2 : Int) : Option ((List Int)) :=
  (gd (room ([] : List Int) a0) (loopO (ref02_Num_l0 a2) (a1, a0, (0:Int))))

noncomputable def ref02_Flag (a0 : (List Int)) (a1 : Bool) : Option ((List Int)) :=
  (bif a1 then ((ref02_Num a0 (1:Int) (1:Int)).bind fun t441 => (some t441)) else ((ref02_Num a0 (0:Int) (1:Int)).bind fun t448 => (some t448)))

noncomputable def ref02_Bytes (a0 : (List Int)) (a1 : (List Int)) : Option ((List Int)) :=
  ((ref02_Num a0 (IntKind.u64.wrap ((a1).length : Int)) (4:Int)).bind fun t438 => (gd (room t438 a1) (some (t438 ++ a1))))

noncomputable def ref01_Rank (a0 : Nat) : Option (Int) :=
  (bif (fNe a0 a0) then (some (18446744073709551615:Int)) else (bif (decide ((Int.ofNat a0) ≥ (9223372036854775808:Int))) then (some (IntKind.u64.wrap ((18446744073709551615:Int) - (Int.ofNat a0)))) else (some (IntKind.u64.wrap ((Int.ofNat a0) + (9223372036854775808:Int))))))

noncomputable def ref13_Reply_l1 (a1 : api_Reply) (s : ((List Int) × Int)) : Option (((List Int) × Int) ⊕ ((List Int))) :=
  match s with | (z1146, z1149) => (bif (decide (z1149 < ((a1.Gots).length : Int))) then ((geto a1.Gots z1149).bind fun x1159 => ((ref02_Flag z1146 x1159.Has).bind fun t1172 => ((ref02_Bytes t1172 x1159.Val).bind fun t1181 => (some (Sum.inl (t1181, (IntKind.i64.wrap (z1149 + (1:Int))))))))) else (inrO (some z1146)))
noncomputable def ref13_Reply_l3 (x1542 : (List api_Pair)) (z1532 : Int) (s : ((List Int) × Int)) : Option (((List Int) × Int) ⊕ (((List Int) × Int) ⊕ ((List Int)))) :=
  match s with | (z1648, z1651) => (bif (decide (z1651 < ((x1542).length : Int))) then ((geto x1542 z1651).bind fun x1667 => ((ref01_Rank x1667.At).bind fun t1678 => ((ref02_Num z1648 t1678 (8:Int)).bind fun t1685 => ((ref02_Bytes t1685 x1667.Val).bind fun t1694 => (some (Sum.inl (t1694, (IntKind.i64.wrap (z1651 + (1:Int)))))))))) else (inrO (some (Sum.inl (z1648, (IntKind.i64.wrap (z1532 + (1:Int))))))))
noncomputable def ref13_Reply_l2 (a1 : api_Reply) (s : ((List Int) × Int)) : Option (((List Int) × Int) ⊕ ((List Int))) :=
  match s with | (z1529, z1532) => (bif (decide (z1532 < ((a1.Scans).length : Int))) then ((geto a1.Scans z1532).bind fun x1542 => ((ref02_Num z1529 (IntKind.u64.wrap ((x1542).length : Int)) (4:Int)).bind fun t1555 => (loopO (ref13_Reply_l3 x1542 z1532) (t1555, (0:Int))))) else (inrO (some z1529)))
noncomputable def ref13_Reply_j0 (a1 : api_Reply) (z1190 : ((List Int))) : Option ((List Int)) :=
  ((ref02_Num z1190 (IntKind.u64.wrap ((a1.Scans).length : Int)) (4:Int)).bind fun t1198 => (loopO (ref13_Reply_l2 a1) (t1198, (0:Int))))
noncomputable def ref13_Reply (a0 : (List Int)) (a1 : api_Reply) : Option ((List Int)) :=
  ((ref02_Num a0 (IntKind.u64.wrap a1.E) (1:Int)).bind fun t1048 => ((ref02_Num t1048 a1.Epoch (8:Int)).bind fun t1057 => ((ref02_Num t1057 a1.Index (8:Int)).bind fun t1066 => ((ref02_Num t1066 (IntKind.u64.wrap ((a1.Gots).length : Int)) (4:Int)).bind fun t1075 => (((loopO (ref13_Reply_l1 a1) (t1075, (0:Int)))).bind (ref13_Reply_j0 a1))))))

noncomputable def octet_Reader_Bad (a0 : octet_Reader) : Option (Bool) :=
  (some a0.bad)

noncomputable def octet_Reader_End (a0 : octet_Reader) : Option (Bool) :=
  ((octet_Reader_Bad a0).bind fun t389 => (bif (!t389) then (some (((a0.p).length : Int) == (0:Int))) else (some false)))

noncomputable def ref11_SameGots_l0 (a0 : (List api_Got)) (a1 : (List api_Got)) (z536 : (Int)) : Option ((Int) ⊕ (Bool)) :=
  (bif (decide (z536 < ((a0).length : Int))) then ((geto a0 z536).bind fun x546 => ((geto a1 z536).bind fun x557 => (bif (!(x546.Has == x557.Has)) then (inrO (some false)) else (bif (!(sEq (toStr x546.Val) (toStr x557.Val))) then (inrO (some false)) else (some (Sum.inl (IntKind.i64.wrap (z536 + (1:Int))))))))) else (inrO (some true)))
noncomputable def ref11_SameGots (a0 : (List api_Got)) (a1 : (List api_Got)) : Option (Bool) :=
  (bif (((a0).length : Int) != ((a1).length : Int)) then (some false) else (loopO (ref11_SameGots_l0 a0 a1) (0:Int)))

noncomputable def math_Signbit (a0 : Nat) : Option (Bool) :=
  (some (decide ((IntKind.i64.wrap (Int.ofNat a0)) < (0:Int))))

noncomputable def ref01_Ahead_j0 (a0 : Nat) (a1 : Nat) (_s : Unit) : Option (Bool) :=
  (some (fLt a0 a1))
noncomputable def ref01_Ahead (a0 : Nat) (a1 : Nat) : Option (Bool) :=
  (bif (fNe a0 a0) then (some false) else (bif (fNe a1 a1) then (some true) else (joinO (bif (fEq a0 (0:Nat)) then (bif (fEq a1 (0:Nat)) then ((math_Signbit a0).bind fun t430 => (bif t430 then ((math_Signbit a1).bind fun t436 => (inrO (some (!t436)))) else (inrO (some false)))) else (some (Sum.inl ()))) else (some (Sum.inl ()))) (ref01_Ahead_j0 a0 a1))))

noncomputable def ref01_Same (a0 : Nat) (a1 : Nat) : Option (Bool) :=
  ((ref01_Ahead a0 a1).bind fun t417 => (bif (!t417) then ((ref01_Ahead a1 a0).bind fun t423 => (some (!t423))) else (some false)))

noncomputable def ref11_SamePairs_l0 (a0 : (List api_Pair)) (a1 : (List api_Pair)) (z629 : (Int)) : Option ((Int) ⊕ (Bool)) :=
  (bif (decide (z629 < ((a0).length : Int))) then ((geto a0 z629).bind fun x639 => ((geto a1 z629).bind fun x650 => ((ref01_Same x639.At x650.At).bind fun t661 => (bif (!t661) then (inrO (some false)) else (bif (!(sEq (toStr x639.Val) (toStr x650.Val))) then (inrO (some false)) else (some (Sum.inl (IntKind.i64.wrap (z629 + (1:Int)))))))))) else (inrO (some true)))
noncomputable def ref11_SamePairs (a0 : (List api_Pair)) (a1 : (List api_Pair)) : Option (Bool) :=
  (bif (((a0).length : Int) != ((a1).length : Int)) then (some false) else (loopO (ref11_SamePairs_l0 a0 a1) (0:Int)))

noncomputable def ref11_SameReply_l0 (a0 : api_Reply) (a1 : api_Reply) (z581 : (Int)) : Option ((Int) ⊕ (Bool)) :=
  (bif (decide (z581 < ((a0.Scans).length : Int))) then ((geto a0.Scans z581).bind fun x591 => ((geto a1.Scans z581).bind fun x602 => ((ref11_SamePairs x591 x602).bind fun t613 => (bif (!t613) then (inrO (some false)) else (some (Sum.inl (IntKind.i64.wrap (z581 + (1:Int))))))))) else (inrO (some true)))
noncomputable def ref11_SameReply (a0 : api_Reply) (a1 : api_Reply) : Option (Bool) :=
  (bif (a0.E != a1.E) then (some false) else (bif (a0.Epoch != a1.Epoch) then (some false) else (bif (a0.Index != a1.Index) then (some false) else ((ref11_SameGots a0.Gots a1.Gots).bind fun t515 => (bif (!t515) then (some false) else (bif (((a0.Scans).length : Int) != ((a1.Scans).length : Int)) then (some false) else (loopO (ref11_SameReply_l0 a0 a1) (0:Int))))))))

noncomputable def law13_CommandReplies_l1 (a0 : api_Reply) (z748 : (Int)) : Option ((Int) ⊕ (Unit ⊕ (Bool))) :=
  (bif (decide (z748 < ((a0.Gots).length : Int))) then ((geto a0.Gots z748).bind fun x758 => (bif (decide (((x758.Val).length : Int) > (256:Int))) then (inrO (inrO (some true))) else (some (Sum.inl (IntKind.i64.wrap (z748 + (1:Int))))))) else (inrO (some (Sum.inl ()))))
noncomputable def law13_CommandReplies_l4 (x910 : (List api_Pair)) (z900 : Int) (z949 : (Int)) : Option ((Int) ⊕ ((Int) ⊕ (Unit ⊕ (Bool)))) :=
  (bif (decide (z949 < ((x910).length : Int))) then ((geto x910 z949).bind fun x959 => (bif (decide (((x959.Val).length : Int) > (256:Int))) then (inrO (inrO (inrO (some true)))) else (some (Sum.inl (IntKind.i64.wrap (z949 + (1:Int))))))) else (inrO (some (Sum.inl (IntKind.i64.wrap (z900 + (1:Int)))))))
noncomputable def law13_CommandReplies_l3 (a0 : api_Reply) (z900 : (Int)) : Option ((Int) ⊕ (Unit ⊕ (Bool))) :=
  (bif (decide (z900 < ((a0.Scans).length : Int))) then ((geto a0.Scans z900).bind fun x910 => (bif (decide (((x910).length : Int) > (64:Int))) then (inrO (inrO (some true))) else (loopO (law13_CommandReplies_l4 x910 z900) (0:Int)))) else (inrO (some (Sum.inl ()))))
noncomputable def law13_CommandReplies_l5 (t982 : (api_Reply × ref12_Tape)) (s : (Int × Int × Int × (List api_Got) × (List (List api_Pair)) × Int)) : Option ((Int × Int × Int × (List api_Got) × (List (List api_Pair)) × Int) ⊕ (Bool)) :=
  match s with | (z1246, z1247, z1248, z1249, z1253, z1257) => (bif (decide (z1257 < (2:Int))) then ((command_LayReply ({ p := [] } : octet_Writer) ({ E := z1246, Epoch := z1247, Index := z1248, Gots := z1249, Scans := z1253 } : api_Reply)).bind fun t1275 => ((octet_Writer_Done t1275).bind fun t1280 => ((octet_Read t1280).bind fun t1290 => ((command_ReadReply t1290).bind fun t1297 => ((ref13_Reply ([]) ({ E := z1246, Epoch := z1247, Index := z1248, Gots := z1249, Scans := z1253 } : api_Reply)).bind fun t1317 => (bif (!(sEq (toStr t1280) (toStr t1317))) then (inrO (some false)) else ((octet_Reader_End t1297.2).bind fun t1325 => (bif (!t1325) then (inrO (some false)) else ((ref11_SameReply t1297.1 ({ E := z1246, Epoch := z1247, Index := z1248, Gots := z1249, Scans := z1253 } : api_Reply)).bind fun t1335 => (bif (!t1335) then (inrO (some false)) else (some (Sum.inl (t982.1.E, t982.1.Epoch, t982.1.Index, t982.1.Gots, t982.1.Scans, (IntKind.i64.wrap (z1257 + (1:Int)))))))))))))))) else (inrO (some true)))
noncomputable def law13_CommandReplies_j2 (a1 : (List Int)) (a0 : api_Reply) (_s : Unit) : Option (Bool) :=
  ((ref13_OfReply ({ L := a1, I := (0:Int) } : ref12_Tape)).bind fun t982 => (loopO (law13_CommandReplies_l5 t982) (a0.E, a0.Epoch, a0.Index, a0.Gots, a0.Scans, (0:Int))))
noncomputable def law13_CommandReplies_j0 (a0 : api_Reply) (a1 : (List Int)) (_s : Unit) : Option (Bool) :=
  (joinO (loopO (law13_CommandReplies_l3 a0) (0:Int)) (law13_CommandReplies_j2 a1 a0))
noncomputable def law13_CommandReplies (a0 : api_Reply) (a1 : (List Int)) : Option (Bool) :=
  (law13_awake.bind fun t680 => (bif (!t680) then (law13_awake.bind fun t686 => (some t686)) else (bif (decide (((a0.Gots).length : Int) > (32:Int))) then (law13_awake.bind fun t692 => (some t692)) else (bif (decide (((a0.Scans).length : Int) > (32:Int))) then (law13_awake.bind fun t698 => (some t698)) else (bif (decide (((a1).length : Int) > (200:Int))) then (law13_awake.bind fun t704 => (some t704)) else (bif (decide (a0.E < (0:Int))) then (law13_awake.bind fun t710 => (some t710)) else (bif (decide (a0.E > (255:Int))) then (law13_awake.bind fun t716 => (some t716)) else (joinO (loopO (law13_CommandReplies_l1 a0) (0:Int)) (law13_CommandReplies_j0 a0 a1)))))))))

noncomputable def locks_Read_l1 (t561 : (Int × octet_Reader)) (s : ((List Nat) × octet_Reader × Int)) : Option (((List Nat) × octet_Reader × Int) ⊕ (octet_Reader × (List Nat))) :=
  match s with | (z637, z640, z641) => (bif (decide (z641 < t561.1)) then ((octet_Reader_Num z640 (8:Int)).bind fun t651 => ((number_Back t651.1).bind fun t656 => (gd (room z637 ([t656])) (some (Sum.inl ((z637 ++ ([t656])), t651.2, (IntKind.i64.wrap (z641 + (1:Int))))))))) else (inrO (some (z640, z637))))
noncomputable def locks_Read_l3 (t681 : (Int × octet_Reader)) (s : ((List (Nat × Nat)) × octet_Reader × Int)) : Option (((List (Nat × Nat)) × octet_Reader × Int) ⊕ (octet_Reader × (List (Nat × Nat)))) :=
  match s with | (z787, z790, z791) => (bif (decide (z791 < t681.1)) then ((octet_Reader_Num z790 (8:Int)).bind fun t801 => ((number_Back t801.1).bind fun t806 => ((octet_Reader_Num t801.2 (8:Int)).bind fun t811 => ((number_Back t811.1).bind fun t816 => (gd (room z787 ([(t806, t816)])) (some (Sum.inl ((z787 ++ ([(t806, t816)])), t811.2, (IntKind.i64.wrap (z791 + (1:Int))))))))))) else (inrO (some (z790, z787))))
noncomputable def locks_Read_l5 (t841 : (Int × octet_Reader)) (s : ((List Nat) × octet_Reader × Int)) : Option (((List Nat) × octet_Reader × Int) ⊕ (octet_Reader × (List Nat))) :=
  match s with | (z917, z920, z921) => (bif (decide (z921 < t841.1)) then ((octet_Reader_Num z920 (8:Int)).bind fun t931 => ((number_Back t931.1).bind fun t936 => (gd (room z917 ([t936])) (some (Sum.inl ((z917 ++ ([t936])), t931.2, (IntKind.i64.wrap (z921 + (1:Int))))))))) else (inrO (some (z920, z917))))
noncomputable def locks_Read_j4 (t531 : (Int × octet_Reader)) (t536 : (Int × octet_Reader)) (t541 : (Int × octet_Reader)) (z675 : (List Nat)) (z835 : (List (Nat × Nat))) (s : (octet_Reader × (List Nat))) : Option (api_Hold × octet_Reader) :=
  match s with | (z952, z955) => ((octet_Reader_Bytes z952 (257:Int)).bind fun t961 => (some (({ ID := ({ Session := t531.1, Seq := t536.1 } : api_ID), Epoch := t541.1, Gets := z675, Scans := z835, Puts := z955, Data := t961.1 } : api_Hold), t961.2)))
noncomputable def locks_Read_j2 (t531 : (Int × octet_Reader)) (t536 : (Int × octet_Reader)) (t541 : (Int × octet_Reader)) (z675 : (List Nat)) (s : (octet_Reader × (List (Nat × Nat)))) : Option (api_Hold × octet_Reader) :=
  match s with | (z832, z835) => ((((octet_Reader_Count z832 (32:Int)).bind fun t841 => (loopO (locks_Read_l5 t841) ([], t841.2, (0:Int))))).bind (locks_Read_j4 t531 t536 t541 z675 z835))
noncomputable def locks_Read_j0 (t531 : (Int × octet_Reader)) (t536 : (Int × octet_Reader)) (t541 : (Int × octet_Reader)) (s : (octet_Reader × (List Nat))) : Option (api_Hold × octet_Reader) :=
  match s with | (z672, z675) => ((((octet_Reader_Count z672 (32:Int)).bind fun t681 => (loopO (locks_Read_l3 t681) ([], t681.2, (0:Int))))).bind (locks_Read_j2 t531 t536 t541 z675))
noncomputable def locks_Read (a0 : octet_Reader) : Option (api_Hold × octet_Reader) :=
  ((octet_Reader_Num a0 (8:Int)).bind fun t531 => ((octet_Reader_Num t531.2 (8:Int)).bind fun t536 => ((octet_Reader_Num t536.2 (8:Int)).bind fun t541 => ((((octet_Reader_Count t541.2 (32:Int)).bind fun t561 => (loopO (locks_Read_l1 t561) ([], t561.2, (0:Int))))).bind (locks_Read_j0 t531 t536 t541)))))

noncomputable def command_readWrites_l0 (t304 : (Int × octet_Reader)) (s : (octet_Reader × (List api_Write) × Int)) : Option ((octet_Reader × (List api_Write) × Int) ⊕ ((List api_Write) × octet_Reader)) :=
  match s with | (z425, z426, z429) => (bif (decide (z429 < t304.1)) then ((octet_Reader_Num z425 (8:Int)).bind fun t440 => ((number_Back t440.1).bind fun t445 => ((octet_Reader_Flag t440.2).bind fun t450 => ((octet_Reader_Bytes t450.2 (256:Int)).bind fun t455 => (gd (room z426 ([({ At := t445, Del := t450.1, Val := t455.1 } : api_Write)])) (some (Sum.inl (t455.2, (z426 ++ ([({ At := t445, Del := t450.1, Val := t455.1 } : api_Write)])), (IntKind.i64.wrap (z429 + (1:Int))))))))))) else (inrO (some (z426, z425))))
noncomputable def command_readWrites (a0 : octet_Reader) : Option ((List api_Write) × octet_Reader) :=
  ((octet_Reader_Count a0 (32:Int)).bind fun t304 => (loopO (command_readWrites_l0 t304) (t304.2, [], (0:Int))))

noncomputable def command_readRule (a0 : octet_Reader) : Option (api_Rule × octet_Reader) :=
  ((octet_Reader_Num a0 (8:Int)).bind fun t411 => ((octet_Reader_Num t411.2 (1:Int)).bind fun t416 => ((octet_Reader_Num t416.2 (1:Int)).bind fun t421 => ((octet_Reader_Num t421.2 (8:Int)).bind fun t426 => ((number_Back t426.1).bind fun t431 => ((octet_Reader_Num t426.2 (8:Int)).bind fun t436 => ((number_Back t436.1).bind fun t441 => ((octet_Reader_Num t436.2 (8:Int)).bind fun t446 => ((octet_Reader_Num t446.2 (4:Int)).bind fun t451 => (some (({ ID := t411.1, From := (IntKind.i64.wrap t416.1), To := (IntKind.i64.wrap t421.1), Lo := t431, Hi := t441, Authority := t446.1, Quota := (IntKind.i64.wrap t451.1) } : api_Rule), t451.2)))))))))))

noncomputable def slices_Equal_byte_byte_l0 (a0 : (List Int)) (a1 : (List Int)) (z598 : (Int)) : Option ((Int) ⊕ (Bool)) :=
  (bif (decide (z598 < ((a0).length : Int))) then ((geto a0 z598).bind fun x608 => ((geto a1 z598).bind fun x613 => (bif (x608 != x613) then (inrO (some false)) else (some (Sum.inl (IntKind.i64.wrap (z598 + (1:Int)))))))) else (inrO (some true)))
noncomputable def slices_Equal_byte_byte (a0 : (List Int)) (a1 : (List Int)) : Option (Bool) :=
  (bif (((a0).length : Int) != ((a1).length : Int)) then (some false) else (loopO (slices_Equal_byte_byte_l0 a0 a1) (0:Int)))

noncomputable def command_Decode_l2 (t709 : (Int × octet_Reader)) (s : ((List api_Part) × octet_Reader × Int)) : Option (((List api_Part) × octet_Reader × Int) ⊕ (octet_Reader × (List api_Part))) :=
  match s with | (z806, z809, z810) => (bif (decide (z810 < t709.1)) then ((octet_Reader_Num z809 (1:Int)).bind fun t821 => ((command_readWrites t821.2).bind fun t826 => (gd (room z806 ([({ Shard := (IntKind.i64.wrap t821.1), Writes := t826.1 } : api_Part)])) (some (Sum.inl ((z806 ++ ([({ Shard := (IntKind.i64.wrap t821.1), Writes := t826.1 } : api_Part)])), t826.2, (IntKind.i64.wrap (z810 + (1:Int))))))))) else (inrO (some (z809, z806))))
noncomputable def command_Decode_j1 (z689 : Int) (z690 : Int) (t695 : (Int × octet_Reader)) (t700 : (Int × octet_Reader)) (s : (octet_Reader × (List api_Part))) : Option ((octet_Reader × Int × Int × Int × Int × Int × Int × Int × Int × (List Nat) × (List (Nat × Nat)) × (List Nat) × (List Int) × (List api_Write) × Int × Int × Int × (List api_Got) × (List (List api_Pair)) × Int × (List api_Part) × Int × Int × Int × Nat × Nat × Int × Int × Bool) ⊕ (api_Command × Int)) :=
  match s with | (z849, z852) => ((command_ReadReply z849).bind fun t860 => (some (Sum.inl (t860.2, z689, z690, t695.1, (0:Int), (0:Int), (0:Int), (0:Int), (0:Int), [], [], [], [], [], t860.1.E, t860.1.Epoch, t860.1.Index, t860.1.Gots, t860.1.Scans, t700.1, z852, (0:Int), (0:Int), (0:Int), (0:Nat), (0:Nat), (0:Int), (0:Int), false))))
noncomputable def command_Decode_j0 (t573 : (Int × octet_Reader)) (a0 : (List Int)) (s : (octet_Reader × Int × Int × Int × Int × Int × Int × Int × Int × (List Nat) × (List (Nat × Nat)) × (List Nat) × (List Int) × (List api_Write) × Int × Int × Int × (List api_Got) × (List (List api_Pair)) × Int × (List api_Part) × Int × Int × Int × Nat × Nat × Int × Int × Bool)) : Option (api_Command × Int) :=
  match s with | (z970, z971, z972, z973, z974, z975, z976, z977, z978, z981, z984, z987, z990, z993, z994, z995, z996, z999, z1002, z1003, z1006, z1007, z1008, z1009, z1010, z1011, z1012, z1013, z1014) => ((octet_Reader_End z970).bind fun t1022 => (bif (!t1022) then (some (({ Kind := (0:Int), ID := ({ Session := (0:Int), Seq := (0:Int) } : api_ID), Epoch := (0:Int), Index := (0:Int), E := (0:Int), Hold := ({ ID := ({ Session := (0:Int), Seq := (0:Int) } : api_ID), Epoch := (0:Int), Gets := [], Scans := [], Puts := [], Data := [] } : api_Hold), Writes := [], R := ({ E := (0:Int), Epoch := (0:Int), Index := (0:Int), Gots := [], Scans := [] } : api_Reply), Shards := (0:Int), Parts := [], Rule := ({ ID := (0:Int), From := (0:Int), To := (0:Int), Lo := (0:Nat), Hi := (0:Nat), Authority := (0:Int), Quota := (0:Int) } : api_Rule), On := false } : api_Command), (5:Int))) else ((command_Encode ({ Kind := (IntKind.u8.wrap t573.1), ID := ({ Session := z971, Seq := z972 } : api_ID), Epoch := z973, Index := z974, E := z975, Hold := ({ ID := ({ Session := z976, Seq := z977 } : api_ID), Epoch := z978, Gets := z981, Scans := z984, Puts := z987, Data := z990 } : api_Hold), Writes := z993, R := ({ E := z994, Epoch := z995, Index := z996, Gots := z999, Scans := z1002 } : api_Reply), Shards := z1003, Parts := z1006, Rule := ({ ID := z1007, From := z1008, To := z1009, Lo := z1010, Hi := z1011, Authority := z1012, Quota := z1013 } : api_Rule), On := z1014 } : api_Command)).bind fun t1054 => ((slices_Equal_byte_byte t1054 a0).bind fun t1063 => (bif (!t1063) then (some (({ Kind := (0:Int), ID := ({ Session := (0:Int), Seq := (0:Int) } : api_ID), Epoch := (0:Int), Index := (0:Int), E := (0:Int), Hold := ({ ID := ({ Session := (0:Int), Seq := (0:Int) } : api_ID), Epoch := (0:Int), Gets := [], Scans := [], Puts := [], Data := [] } : api_Hold), Writes := [], R := ({ E := (0:Int), Epoch := (0:Int), Index := (0:Int), Gots := [], Scans := [] } : api_Reply), Shards := (0:Int), Parts := [], Rule := ({ ID := (0:Int), From := (0:Int), To := (0:Int), Lo := (0:Nat), Hi := (0:Nat), Authority := (0:Int), Quota := (0:Int) } : api_Rule), On := false } : api_Command), (5:Int))) else (some (({ Kind := (IntKind.u8.wrap t573.1), ID := ({ Session := z971, Seq := z972 } : api_ID), Epoch := z973, Index := z974, E := z975, Hold := ({ ID := ({ Session := z976, Seq := z977 } : api_ID), Epoch := z978, Gets := z981, Scans := z984, Puts := z987, Data := z990 } : api_Hold), Writes := z993, R := ({ E := z994, Epoch := z995, Index := z996, Gots := z999, Scans := z1002 } : api_Reply), Shards := z1003, Parts := z1006, Rule := ({ ID := z1007, From := z1008, To := z1009, Lo := z1010, Hi := z1011, Authority := z1012, Quota := z1013 } : api_Rule), On := z1014 } : api_Command), (0:Int))))))))
noncomputable def command_Decode (a0 : (List Int)) : Option (api_Command × Int) :=
  ((octet_Read a0).bind fun t555 => ((octet_Reader_Num t555 (1:Int)).bind fun t573 => (joinO (bif ((IntKind.u8.wrap t573.1) == (1:Int)) then ((octet_Reader_Num t573.2 (8:Int)).bind fun t602 => (some (Sum.inl (t602.2, (0:Int), (0:Int), t602.1, (0:Int), (0:Int), (0:Int), (0:Int), (0:Int), [], [], [], [], [], (0:Int), (0:Int), (0:Int), [], [], (0:Int), [], (0:Int), (0:Int), (0:Int), (0:Nat), (0:Nat), (0:Int), (0:Int), false)))) else (bif ((IntKind.u8.wrap t573.1) == (2:Int)) then ((locks_Read t573.2).bind fun t610 => (some (Sum.inl (t610.2, (0:Int), (0:Int), (0:Int), (0:Int), (0:Int), t610.1.ID.Session, t610.1.ID.Seq, t610.1.Epoch, t610.1.Gets, t610.1.Scans, t610.1.Puts, t610.1.Data, [], (0:Int), (0:Int), (0:Int), [], [], (0:Int), [], (0:Int), (0:Int), (0:Int), (0:Nat), (0:Nat), (0:Int), (0:Int), false)))) else (bif ((IntKind.u8.wrap t573.1) == (3:Int)) then (((octet_Reader_Num t573.2 (8:Int)).bind fun t626 => ((octet_Reader_Num t626.2 (8:Int)).bind fun t631 => (some (t631.2, t626.1, t631.1)))).bind fun (z638, z639, z640) => ((octet_Reader_Num z638 (1:Int)).bind fun t645 => ((octet_Reader_Num t645.2 (8:Int)).bind fun t650 => ((octet_Reader_Num t650.2 (8:Int)).bind fun t655 => ((command_readWrites t655.2).bind fun t666 => (some (Sum.inl (t666.2, z639, z640, t650.1, t655.1, (IntKind.i64.wrap t645.1), (0:Int), (0:Int), (0:Int), [], [], [], [], t666.1, (0:Int), (0:Int), (0:Int), [], [], (0:Int), [], (0:Int), (0:Int), (0:Int), (0:Nat), (0:Nat), (0:Int), (0:Int), false)))))))) else (bif ((IntKind.u8.wrap t573.1) == (4:Int)) then (((octet_Reader_Num t573.2 (8:Int)).bind fun t676 => ((octet_Reader_Num t676.2 (8:Int)).bind fun t681 => (some (t681.2, t676.1, t681.1)))).bind fun (z688, z689, z690) => ((octet_Reader_Num z688 (8:Int)).bind fun t695 => ((octet_Reader_Num t695.2 (2:Int)).bind fun t700 => ((((octet_Reader_Count t700.2 (8:Int)).bind fun t709 => (loopO (command_Decode_l2 t709) ([], t709.2, (0:Int))))).bind (command_Decode_j1 z689 z690 t695 t700))))) else (bif ((IntKind.u8.wrap t573.1) == (5:Int)) then (((octet_Reader_Num t573.2 (8:Int)).bind fun t872 => ((octet_Reader_Num t872.2 (8:Int)).bind fun t877 => (some (t877.2, t872.1, t877.1)))).bind fun (z884, z885, z886) => (some (Sum.inl (z884, z885, z886, (0:Int), (0:Int), (0:Int), (0:Int), (0:Int), (0:Int), [], [], [], [], [], (0:Int), (0:Int), (0:Int), [], [], (0:Int), [], (0:Int), (0:Int), (0:Int), (0:Nat), (0:Nat), (0:Int), (0:Int), false)))) else (bif ((IntKind.u8.wrap t573.1) == (6:Int)) then ((command_readRule t573.2).bind fun t892 => ((octet_Reader_Flag t892.2).bind fun t899 => (some (Sum.inl (t899.2, (0:Int), (0:Int), (0:Int), (0:Int), (0:Int), (0:Int), (0:Int), (0:Int), [], [], [], [], [], (0:Int), (0:Int), (0:Int), [], [], (0:Int), [], t892.1.ID, t892.1.From, t892.1.To, t892.1.Lo, t892.1.Hi, t892.1.Authority, t892.1.Quota, t899.1))))) else (bif ((IntKind.u8.wrap t573.1) == (7:Int)) then (((octet_Reader_Num t573.2 (8:Int)).bind fun t907 => ((octet_Reader_Num t907.2 (8:Int)).bind fun t912 => (some (t912.2, t907.1, t912.1)))).bind fun (z919, z920, z921) => ((octet_Reader_Num z919 (8:Int)).bind fun t926 => ((command_readRule t926.2).bind fun t933 => ((command_readWrites t933.2).bind fun t940 => ((command_ReadReply t940.2).bind fun t949 => (some (Sum.inl (t949.2, z920, z921, t926.1, (0:Int), (0:Int), (0:Int), (0:Int), (0:Int), [], [], [], [], t940.1, t949.1.E, t949.1.Epoch, t949.1.Index, t949.1.Gots, t949.1.Scans, (0:Int), [], t933.1.ID, t933.1.From, t933.1.To, t933.1.Lo, t933.1.Hi, t933.1.Authority, t933.1.Quota, false)))))))) else (inrO (some (({ Kind := (0:Int), ID := ({ Session := (0:Int), Seq := (0:Int) } : api_ID), Epoch := (0:Int), Index := (0:Int), E := (0:Int), Hold := ({ ID := ({ Session := (0:Int), Seq := (0:Int) } : api_ID), Epoch := (0:Int), Gets := [], Scans := [], Puts := [], Data := [] } : api_Hold), Writes := [], R := ({ E := (0:Int), Epoch := (0:Int), Index := (0:Int), Gots := [], Scans := [] } : api_Reply), Shards := (0:Int), Parts := [], Rule := ({ ID := (0:Int), From := (0:Int), To := (0:Int), Lo := (0:Nat), Hi := (0:Nat), Authority := (0:Int), Quota := (0:Int) } : api_Rule), On := false } : api_Command), (5:Int))))))))))) (command_Decode_j0 t573 a0))))

noncomputable def ref12_Tape_Of (a0 : ref12_Tape) : Option (api_ID × ref12_Tape) :=
  ((ref12_Tape_Next a0 (4:Int)).bind fun t88 => ((ref12_Tape_Next t88.2 (4:Int)).bind fun t93 => (some (({ Session := (IntKind.u64.wrap t88.1), Seq := (IntKind.u64.wrap (IntKind.i64.wrap ((1:Int) + t93.1))) } : api_ID), t93.2))))

noncomputable def ref12_Tape_Hold_l1 (t463 : (Int × ref12_Tape)) (s : ((List Nat) × ref12_Tape × Int)) : Option (((List Nat) × ref12_Tape × Int) ⊕ (ref12_Tape × (List Nat))) :=
  match s with | (z524, z527, z528) => (bif (decide (z528 < t463.1)) then ((ref12_Tape_Float z527).bind fun t538 => (gd (room z524 ([t538.1])) (some (Sum.inl ((z524 ++ ([t538.1])), t538.2, (IntKind.i64.wrap (z528 + (1:Int)))))))) else (inrO (some (z527, z524))))
noncomputable def ref12_Tape_Hold_l3 (t563 : (Int × ref12_Tape)) (s : ((List (Nat × Nat)) × ref12_Tape × Int)) : Option (((List (Nat × Nat)) × ref12_Tape × Int) ⊕ (ref12_Tape × (List (Nat × Nat)))) :=
  match s with | (z639, z642, z643) => (bif (decide (z643 < (IntKind.i64.wrap (Int.tdiv t563.1 (2:Int))))) then ((ref12_Tape_Float z642).bind fun t653 => ((ref12_Tape_Float t653.2).bind fun t658 => (gd (room z639 ([(t653.1, t658.1)])) (some (Sum.inl ((z639 ++ ([(t653.1, t658.1)])), t658.2, (IntKind.i64.wrap (z643 + (1:Int))))))))) else (inrO (some (z642, z639))))
noncomputable def ref12_Tape_Hold_l5 (t683 : (Int × ref12_Tape)) (s : ((List Nat) × ref12_Tape × Int)) : Option (((List Nat) × ref12_Tape × Int) ⊕ (ref12_Tape × (List Nat))) :=
  match s with | (z744, z747, z748) => (bif (decide (z748 < t683.1)) then ((ref12_Tape_Float z747).bind fun t758 => (gd (room z744 ([t758.1])) (some (Sum.inl ((z744 ++ ([t758.1])), t758.2, (IntKind.i64.wrap (z748 + (1:Int)))))))) else (inrO (some (z747, z744))))
noncomputable def ref12_Tape_Hold_j4 (t438 : (api_ID × ref12_Tape)) (t443 : (Int × ref12_Tape)) (z557 : (List Nat)) (z677 : (List (Nat × Nat))) (s : (ref12_Tape × (List Nat))) : Option (api_Hold × ref12_Tape) :=
  match s with | (z774, z777) => ((ref12_Tape_Next z774 (4:Int)).bind fun t783 => (bif (t783.1 == (0:Int)) then ((ref12_Tape_Val t783.2).bind fun t789 => (some (({ ID := t438.1, Epoch := (IntKind.u64.wrap (IntKind.i64.wrap ((1:Int) + t443.1))), Gets := z557, Scans := z677, Puts := z777, Data := t789.1 } : api_Hold), t789.2))) else (some (({ ID := t438.1, Epoch := (IntKind.u64.wrap (IntKind.i64.wrap ((1:Int) + t443.1))), Gets := z557, Scans := z677, Puts := z777, Data := [] } : api_Hold), t783.2))))
noncomputable def ref12_Tape_Hold_j2 (t438 : (api_ID × ref12_Tape)) (t443 : (Int × ref12_Tape)) (z557 : (List Nat)) (s : (ref12_Tape × (List (Nat × Nat)))) : Option (api_Hold × ref12_Tape) :=
  match s with | (z674, z677) => ((ref12_Tape_Next z674 (3:Int)).bind fun t683 => (((loopO (ref12_Tape_Hold_l5 t683) ([], t683.2, (0:Int)))).bind (ref12_Tape_Hold_j4 t438 t443 z557 z677)))
noncomputable def ref12_Tape_Hold_j0 (t438 : (api_ID × ref12_Tape)) (t443 : (Int × ref12_Tape)) (s : (ref12_Tape × (List Nat))) : Option (api_Hold × ref12_Tape) :=
  match s with | (z554, z557) => ((ref12_Tape_Next z554 (3:Int)).bind fun t563 => (((loopO (ref12_Tape_Hold_l3 t563) ([], t563.2, (0:Int)))).bind (ref12_Tape_Hold_j2 t438 t443 z557)))
noncomputable def ref12_Tape_Hold (a0 : ref12_Tape) : Option (api_Hold × ref12_Tape) :=
  ((ref12_Tape_Of a0).bind fun t438 => ((ref12_Tape_Next t438.2 (4:Int)).bind fun t443 => ((ref12_Tape_Next t443.2 (3:Int)).bind fun t463 => (((loopO (ref12_Tape_Hold_l1 t463) ([], t463.2, (0:Int)))).bind (ref12_Tape_Hold_j0 t438 t443)))))

noncomputable def ref13_OfWrites_j1 (z515 : (List api_Write)) (t529 : (Nat × ref12_Tape)) (t534 : (Int × ref12_Tape)) (z518 : Int) (s : (ref12_Tape × (List Int))) : Option ((ref12_Tape × (List api_Write) × Int) ⊕ ((List api_Write) × ref12_Tape)) :=
  match s with | (z558, z561) => (gd (room z515 ([({ At := t529.1, Del := (t534.1 == (0:Int)), Val := z561 } : api_Write)])) (some (Sum.inl (z558, (z515 ++ ([({ At := t529.1, Del := (t534.1 == (0:Int)), Val := z561 } : api_Write)])), (IntKind.i64.wrap (z518 + (1:Int)))))))
noncomputable def ref13_OfWrites_l0 (t348 : (Int × ref12_Tape)) (s : (ref12_Tape × (List api_Write) × Int)) : Option ((ref12_Tape × (List api_Write) × Int) ⊕ ((List api_Write) × ref12_Tape)) :=
  match s with | (z514, z515, z518) => (bif (decide (z518 < t348.1)) then ((ref12_Tape_Float z514).bind fun t529 => ((ref12_Tape_Next t529.2 (4:Int)).bind fun t534 => (((bif (!(t534.1 == (0:Int))) then ((ref12_Tape_Val t534.2).bind fun t549 => (some (t549.2, t549.1))) else (some (t534.2, [])))).bind (ref13_OfWrites_j1 z515 t529 t534 z518)))) else (inrO (some (z515, z514))))
noncomputable def ref13_OfWrites (a0 : ref12_Tape) : Option ((List api_Write) × ref12_Tape) :=
  ((ref12_Tape_Next a0 (3:Int)).bind fun t348 => (loopO (ref13_OfWrites_l0 t348) (t348.2, [], (0:Int))))

noncomputable def ref13_OfRule (a0 : ref12_Tape) : Option (api_Rule × ref12_Tape) :=
  ((ref12_Tape_Next a0 (3:Int)).bind fun t362 => ((ref12_Tape_Next t362.2 (4:Int)).bind fun t367 => ((ref12_Tape_Next t367.2 (4:Int)).bind fun t372 => ((ref12_Tape_Float t372.2).bind fun t377 => ((ref12_Tape_Float t377.2).bind fun t382 => ((ref12_Tape_Next t382.2 (2:Int)).bind fun t387 => ((ref12_Tape_Next t387.2 (3:Int)).bind fun t392 => (some (({ ID := (IntKind.u64.wrap t362.1), From := t367.1, To := t372.1, Lo := t377.1, Hi := t382.1, Authority := (IntKind.u64.wrap t387.1), Quota := t392.1 } : api_Rule), t392.2)))))))))

noncomputable def ref13_OfCommand_l2 (t532 : (Int × ref12_Tape)) (s : ((List api_Part) × ref12_Tape × Int)) : Option (((List api_Part) × ref12_Tape × Int) ⊕ (ref12_Tape × (List api_Part))) :=
  match s with | (z614, z617, z618) => (bif (decide (z618 < t532.1)) then ((ref13_OfWrites z617).bind fun t629 => (gd (room z614 ([({ Shard := z618, Writes := t629.1 } : api_Part)])) (some (Sum.inl ((z614 ++ ([({ Shard := z618, Writes := t629.1 } : api_Part)])), t629.2, (IntKind.i64.wrap (z618 + (1:Int)))))))) else (inrO (some (z617, z614))))
noncomputable def ref13_OfCommand_j1 (t389 : (Int × ref12_Tape)) (z512 : Int) (t496 : (api_ID × ref12_Tape)) (t518 : (Int × ref12_Tape)) (t525 : (Int × ref12_Tape)) (s : (ref12_Tape × (List api_Part))) : Option (api_Command × ref12_Tape) :=
  match s with | (z652, z655) => ((ref13_OfReply z652).bind fun t663 => (some (({ Kind := (IntKind.u8.wrap (IntKind.i64.wrap ((1:Int) + t389.1))), ID := ({ Session := z512, Seq := t496.1.Seq } : api_ID), Epoch := (IntKind.u64.wrap (IntKind.i64.wrap ((1:Int) + t518.1))), Index := (0:Int), E := (0:Int), Hold := ({ ID := ({ Session := (0:Int), Seq := (0:Int) } : api_ID), Epoch := (0:Int), Gets := [], Scans := [], Puts := [], Data := [] } : api_Hold), Writes := [], R := t663.1, Shards := (IntKind.u64.wrap t525.1), Parts := z655, Rule := ({ ID := (0:Int), From := (0:Int), To := (0:Int), Lo := (0:Nat), Hi := (0:Nat), Authority := (0:Int), Quota := (0:Int) } : api_Rule), On := false } : api_Command), t663.2)))
noncomputable def ref13_OfCommand_j0 (t389 : (Int × ref12_Tape)) (t496 : (api_ID × ref12_Tape)) (s : (ref12_Tape × Int)) : Option (api_Command × ref12_Tape) :=
  match s with | (z511, z512) => ((ref12_Tape_Next z511 (4:Int)).bind fun t518 => ((ref12_Tape_Next t518.2 (4:Int)).bind fun t525 => ((ref12_Tape_Next t525.2 (3:Int)).bind fun t532 => (((loopO (ref13_OfCommand_l2 t532) ([], t532.2, (0:Int)))).bind (ref13_OfCommand_j1 t389 z512 t496 t518 t525)))))
noncomputable def ref13_OfCommand (a0 : ref12_Tape) : Option (api_Command × ref12_Tape) :=
  ((ref12_Tape_Next a0 (7:Int)).bind fun t389 => (bif ((IntKind.u8.wrap (IntKind.i64.wrap ((1:Int) + t389.1))) == (1:Int)) then ((ref12_Tape_Next t389.2 (4:Int)).bind fun t418 => (some (({ Kind := (IntKind.u8.wrap (IntKind.i64.wrap ((1:Int) + t389.1))), ID := ({ Session := (0:Int), Seq := (0:Int) } : api_ID), Epoch := (IntKind.u64.wrap (IntKind.i64.wrap ((1:Int) + t418.1))), Index := (0:Int), E := (0:Int), Hold := ({ ID := ({ Session := (0:Int), Seq := (0:Int) } : api_ID), Epoch := (0:Int), Gets := [], Scans := [], Puts := [], Data := [] } : api_Hold), Writes := [], R := ({ E := (0:Int), Epoch := (0:Int), Index := (0:Int), Gots := [], Scans := [] } : api_Reply), Shards := (0:Int), Parts := [], Rule := ({ ID := (0:Int), From := (0:Int), To := (0:Int), Lo := (0:Nat), Hi := (0:Nat), Authority := (0:Int), Quota := (0:Int) } : api_Rule), On := false } : api_Command), t418.2))) else (bif ((IntKind.u8.wrap (IntKind.i64.wrap ((1:Int) + t389.1))) == (2:Int)) then ((ref12_Tape_Hold t389.2).bind fun t428 => (some (({ Kind := (IntKind.u8.wrap (IntKind.i64.wrap ((1:Int) + t389.1))), ID := ({ Session := (0:Int), Seq := (0:Int) } : api_ID), Epoch := (0:Int), Index := (0:Int), E := (0:Int), Hold := t428.1, Writes := [], R := ({ E := (0:Int), Epoch := (0:Int), Index := (0:Int), Gots := [], Scans := [] } : api_Reply), Shards := (0:Int), Parts := [], Rule := ({ ID := (0:Int), From := (0:Int), To := (0:Int), Lo := (0:Nat), Hi := (0:Nat), Authority := (0:Int), Quota := (0:Int) } : api_Rule), On := false } : api_Command), t428.2))) else (bif ((IntKind.u8.wrap (IntKind.i64.wrap ((1:Int) + t389.1))) == (3:Int)) then ((ref12_Tape_Of t389.2).bind fun t446 => ((ref12_Tape_Next t446.2 (3:Int)).bind fun t458 => ((geto ([(0:Int), (0:Int), (8:Int)]) t458.1).bind fun x463 => ((ref12_Tape_Next t458.2 (4:Int)).bind fun t470 => ((ref12_Tape_Next t470.2 (20:Int)).bind fun t477 => ((ref13_OfWrites t477.2).bind fun t484 => (some (({ Kind := (IntKind.u8.wrap (IntKind.i64.wrap ((1:Int) + t389.1))), ID := t446.1, Epoch := (IntKind.u64.wrap (IntKind.i64.wrap ((1:Int) + t470.1))), Index := (IntKind.u64.wrap t477.1), E := x463, Hold := ({ ID := ({ Session := (0:Int), Seq := (0:Int) } : api_ID), Epoch := (0:Int), Gets := [], Scans := [], Puts := [], Data := [] } : api_Hold), Writes := t484.1, R := ({ E := (0:Int), Epoch := (0:Int), Index := (0:Int), Gots := [], Scans := [] } : api_Reply), Shards := (0:Int), Parts := [], Rule := ({ ID := (0:Int), From := (0:Int), To := (0:Int), Lo := (0:Nat), Hi := (0:Nat), Authority := (0:Int), Quota := (0:Int) } : api_Rule), On := false } : api_Command), t484.2)))))))) else (bif ((IntKind.u8.wrap (IntKind.i64.wrap ((1:Int) + t389.1))) == (4:Int)) then ((ref12_Tape_Of t389.2).bind fun t496 => ((((ref12_Tape_Next t496.2 (6:Int)).bind fun t503 => (bif (t503.1 == (0:Int)) then (some (t503.2, (IntKind.u64.wrap (t496.1.Session + (9223372036854775808:Int))))) else (some (t503.2, t496.1.Session))))).bind (ref13_OfCommand_j0 t389 t496))) else (bif ((IntKind.u8.wrap (IntKind.i64.wrap ((1:Int) + t389.1))) == (5:Int)) then ((ref12_Tape_Of t389.2).bind fun t677 => (some (({ Kind := (IntKind.u8.wrap (IntKind.i64.wrap ((1:Int) + t389.1))), ID := t677.1, Epoch := (0:Int), Index := (0:Int), E := (0:Int), Hold := ({ ID := ({ Session := (0:Int), Seq := (0:Int) } : api_ID), Epoch := (0:Int), Gets := [], Scans := [], Puts := [], Data := [] } : api_Hold), Writes := [], R := ({ E := (0:Int), Epoch := (0:Int), Index := (0:Int), Gots := [], Scans := [] } : api_Reply), Shards := (0:Int), Parts := [], Rule := ({ ID := (0:Int), From := (0:Int), To := (0:Int), Lo := (0:Nat), Hi := (0:Nat), Authority := (0:Int), Quota := (0:Int) } : api_Rule), On := false } : api_Command), t677.2))) else (bif ((IntKind.u8.wrap (IntKind.i64.wrap ((1:Int) + t389.1))) == (6:Int)) then ((ref13_OfRule t389.2).bind fun t687 => ((ref12_Tape_Next t687.2 (3:Int)).bind fun t694 => (some (({ Kind := (IntKind.u8.wrap (IntKind.i64.wrap ((1:Int) + t389.1))), ID := ({ Session := (0:Int), Seq := (0:Int) } : api_ID), Epoch := (0:Int), Index := (0:Int), E := (0:Int), Hold := ({ ID := ({ Session := (0:Int), Seq := (0:Int) } : api_ID), Epoch := (0:Int), Gets := [], Scans := [], Puts := [], Data := [] } : api_Hold), Writes := [], R := ({ E := (0:Int), Epoch := (0:Int), Index := (0:Int), Gots := [], Scans := [] } : api_Reply), Shards := (0:Int), Parts := [], Rule := t687.1, On := (decide (t694.1 > (0:Int))) } : api_Command), t694.2)))) else (bif ((IntKind.u8.wrap (IntKind.i64.wrap ((1:Int) + t389.1))) == (7:Int)) then ((ref12_Tape_Of t389.2).bind fun t704 => ((ref12_Tape_Next t704.2 (4:Int)).bind fun t711 => ((ref13_OfRule t711.2).bind fun t718 => ((ref13_OfWrites t718.2).bind fun t725 => ((ref13_OfReply t725.2).bind fun t734 => (some (({ Kind := (IntKind.u8.wrap (IntKind.i64.wrap ((1:Int) + t389.1))), ID := t704.1, Epoch := (IntKind.u64.wrap (IntKind.i64.wrap ((1:Int) + t711.1))), Index := (0:Int), E := (0:Int), Hold := ({ ID := ({ Session := (0:Int), Seq := (0:Int) } : api_ID), Epoch := (0:Int), Gets := [], Scans := [], Puts := [], Data := [] } : api_Hold), Writes := t725.1, R := t734.1, Shards := (0:Int), Parts := [], Rule := t718.1, On := false } : api_Command), t734.2))))))) else (some (({ Kind := (IntKind.u8.wrap (IntKind.i64.wrap ((1:Int) + t389.1))), ID := ({ Session := (0:Int), Seq := (0:Int) } : api_ID), Epoch := (0:Int), Index := (0:Int), E := (0:Int), Hold := ({ ID := ({ Session := (0:Int), Seq := (0:Int) } : api_ID), Epoch := (0:Int), Gets := [], Scans := [], Puts := [], Data := [] } : api_Hold), Writes := [], R := ({ E := (0:Int), Epoch := (0:Int), Index := (0:Int), Gots := [], Scans := [] } : api_Reply), Shards := (0:Int), Parts := [], Rule := ({ ID := (0:Int), From := (0:Int), To := (0:Int), Lo := (0:Nat), Hi := (0:Nat), Authority := (0:Int), Quota := (0:Int) } : api_Rule), On := false } : api_Command), t389.2))))))))))

noncomputable def ref11_SameHold_l1 (a0 : api_Hold) (a1 : api_Hold) (z435 : (Int)) : Option ((Int) ⊕ (Unit ⊕ (Bool))) :=
  (bif (decide (z435 < ((a0.Gets).length : Int))) then ((geto a0.Gets z435).bind fun x445 => ((geto a1.Gets z435).bind fun x450 => ((ref01_Same x445 x450).bind fun t455 => (bif (!t455) then (inrO (inrO (some false))) else (some (Sum.inl (IntKind.i64.wrap (z435 + (1:Int))))))))) else (inrO (some (Sum.inl ()))))
noncomputable def ref11_SameHold_l3 (a0 : api_Hold) (a1 : api_Hold) (z513 : (Int)) : Option ((Int) ⊕ (Unit ⊕ (Bool))) :=
  (bif (decide (z513 < ((a0.Scans).length : Int))) then ((geto a0.Scans z513).bind fun x523 => ((geto a1.Scans z513).bind fun x528 => ((ref01_Same x523.1 x528.1).bind fun t533 => (bif (!t533) then (inrO (inrO (some false))) else ((ref01_Same x523.2 x528.2).bind fun t539 => (bif (!t539) then (inrO (inrO (some false))) else (some (Sum.inl (IntKind.i64.wrap (z513 + (1:Int))))))))))) else (inrO (some (Sum.inl ()))))
noncomputable def ref11_SameHold_l4 (a0 : api_Hold) (a1 : api_Hold) (z585 : (Int)) : Option ((Int) ⊕ (Bool)) :=
  (bif (decide (z585 < ((a0.Puts).length : Int))) then ((geto a0.Puts z585).bind fun x595 => ((geto a1.Puts z585).bind fun x600 => ((ref01_Same x595 x600).bind fun t605 => (bif (!t605) then (inrO (some false)) else (some (Sum.inl (IntKind.i64.wrap (z585 + (1:Int))))))))) else (inrO (some true)))
noncomputable def ref11_SameHold_j2 (a0 : api_Hold) (a1 : api_Hold) (_s : Unit) : Option (Bool) :=
  (loopO (ref11_SameHold_l4 a0 a1) (0:Int))
noncomputable def ref11_SameHold_j0 (a0 : api_Hold) (a1 : api_Hold) (_s : Unit) : Option (Bool) :=
  (joinO (loopO (ref11_SameHold_l3 a0 a1) (0:Int)) (ref11_SameHold_j2 a0 a1))
noncomputable def ref11_SameHold (a0 : api_Hold) (a1 : api_Hold) : Option (Bool) :=
  (bif (!((a0.ID.Session == a1.ID.Session) && (a0.ID.Seq == a1.ID.Seq))) then (some false) else (bif (a0.Epoch != a1.Epoch) then (some false) else (bif (((a0.Gets).length : Int) != ((a1.Gets).length : Int)) then (some false) else (bif (((a0.Scans).length : Int) != ((a1.Scans).length : Int)) then (some false) else (bif (((a0.Puts).length : Int) != ((a1.Puts).length : Int)) then (some false) else (bif (!(sEq (toStr a0.Data) (toStr a1.Data))) then (some false) else (joinO (loopO (ref11_SameHold_l1 a0 a1) (0:Int)) (ref11_SameHold_j0 a0 a1))))))))

noncomputable def ref13_SameWrites_l0 (a0 : (List api_Write)) (a1 : (List api_Write)) (z379 : (Int)) : Option ((Int) ⊕ (Bool)) :=
  (bif (decide (z379 < ((a0).length : Int))) then ((geto a0 z379).bind fun x389 => ((geto a1 z379).bind fun x400 => ((ref01_Same x389.At x400.At).bind fun t411 => (bif (!t411) then (inrO (some false)) else (bif (!(x389.Del == x400.Del)) then (inrO (some false)) else (bif (!(sEq (toStr x389.Val) (toStr x400.Val))) then (inrO (some false)) else (some (Sum.inl (IntKind.i64.wrap (z379 + (1:Int))))))))))) else (inrO (some true)))
noncomputable def ref13_SameWrites (a0 : (List api_Write)) (a1 : (List api_Write)) : Option (Bool) :=
  (bif (((a0).length : Int) != ((a1).length : Int)) then (some false) else (loopO (ref13_SameWrites_l0 a0 a1) (0:Int)))

noncomputable def ref11_SameRule (a0 : api_Rule) (a1 : api_Rule) : Option (Bool) :=
  (bif (a0.ID == a1.ID) then (bif (a0.From == a1.From) then (bif (a0.To == a1.To) then ((ref01_Same a0.Lo a1.Lo).bind fun t200 => (bif t200 then ((ref01_Same a0.Hi a1.Hi).bind fun t206 => (bif t206 then (bif (a0.Authority == a1.Authority) then (some (a0.Quota == a1.Quota)) else (some false)) else (some false))) else (some false))) else (some false)) else (some false)) else (some false))

noncomputable def law13_same_l0 (a0 : api_Command) (a1 : api_Command) (z387 : (Int)) : Option ((Int) ⊕ (Bool)) :=
  (bif (decide (z387 < ((a0.Parts).length : Int))) then ((geto a0.Parts z387).bind fun x397 => ((geto a1.Parts z387).bind fun x408 => (bif (x397.Shard != x408.Shard) then (inrO (some false)) else ((ref13_SameWrites x397.Writes x408.Writes).bind fun t420 => (bif (!t420) then (inrO (some false)) else (some (Sum.inl (IntKind.i64.wrap (z387 + (1:Int)))))))))) else (inrO (some true)))
noncomputable def law13_same (a0 : api_Command) (a1 : api_Command) : Option (Bool) :=
  (bif (a0.Kind != a1.Kind) then (some false) else (bif (!((a0.ID.Session == a1.ID.Session) && (a0.ID.Seq == a1.ID.Seq))) then (some false) else (bif (a0.Epoch != a1.Epoch) then (some false) else (bif (a0.Index != a1.Index) then (some false) else (bif (a0.E != a1.E) then (some false) else ((ref11_SameHold a0.Hold a1.Hold).bind fun t299 => (bif (!t299) then (some false) else ((ref13_SameWrites a0.Writes a1.Writes).bind fun t305 => (bif (!t305) then (some false) else ((ref11_SameReply a0.R a1.R).bind fun t311 => (bif (!t311) then (some false) else (bif (a0.Shards != a1.Shards) then (some false) else (bif (((a0.Parts).length : Int) != ((a1.Parts).length : Int)) then (some false) else ((ref11_SameRule a0.Rule a1.Rule).bind fun t319 => (bif (!t319) then (some false) else (bif (!(a0.On == a1.On)) then (some false) else (loopO (law13_same_l0 a0 a1) (0:Int))))))))))))))))))

noncomputable def law13_CommandApart (a0 : (List Int)) (a1 : (List Int)) : Option (Bool) :=
  (law13_awake.bind fun t195 => (bif (!t195) then (law13_awake.bind fun t201 => (some t201)) else (bif (decide (((a0).length : Int) > (100:Int))) then (law13_awake.bind fun t207 => (some t207)) else (bif (decide (((a1).length : Int) > (100:Int))) then (law13_awake.bind fun t213 => (some t213)) else ((ref13_OfCommand ({ L := a0, I := (0:Int) } : ref12_Tape)).bind fun t230 => ((ref13_OfCommand ({ L := a1, I := (0:Int) } : ref12_Tape)).bind fun t266 => ((command_Encode t230.1).bind fun t318 => ((command_Encode t266.1).bind fun t341 => ((law13_same t230.1 t266.1).bind fun t380 => (some ((sEq (toStr t318) (toStr t341)) == t380)))))))))))

noncomputable def ref12_ID (a0 : (List Int)) (a1 : api_ID) : Option ((List Int)) :=
  ((ref02_Num a0 a1.Session (8:Int)).bind fun t199 => ((ref02_Num t199 a1.Seq (8:Int)).bind fun t208 => (some t208)))

noncomputable def ref12_Hold_l1 (a1 : api_Hold) (s : ((List Int) × Int)) : Option (((List Int) × Int) ⊕ ((List Int))) :=
  match s with | (z595, z598) => (bif (decide (z598 < ((a1.Gets).length : Int))) then ((geto a1.Gets z598).bind fun x608 => ((ref01_Rank x608).bind fun t613 => ((ref02_Num z595 t613 (8:Int)).bind fun t620 => (some (Sum.inl (t620, (IntKind.i64.wrap (z598 + (1:Int))))))))) else (inrO (some z595)))
noncomputable def ref12_Hold_l3 (a1 : api_Hold) (s : ((List Int) × Int)) : Option (((List Int) × Int) ⊕ ((List Int))) :=
  match s with | (z716, z719) => (bif (decide (z719 < ((a1.Scans).length : Int))) then ((geto a1.Scans z719).bind fun x729 => ((ref01_Rank x729.1).bind fun t734 => ((ref02_Num z716 t734 (8:Int)).bind fun t741 => ((ref01_Rank x729.2).bind fun t748 => ((ref02_Num t741 t748 (8:Int)).bind fun t755 => (some (Sum.inl (t755, (IntKind.i64.wrap (z719 + (1:Int))))))))))) else (inrO (some z716)))
noncomputable def ref12_Hold_l5 (a1 : api_Hold) (s : ((List Int) × Int)) : Option (((List Int) × Int) ⊕ ((List Int))) :=
  match s with | (z823, z826) => (bif (decide (z826 < ((a1.Puts).length : Int))) then ((geto a1.Puts z826).bind fun x836 => ((ref01_Rank x836).bind fun t841 => ((ref02_Num z823 t841 (8:Int)).bind fun t848 => (some (Sum.inl (t848, (IntKind.i64.wrap (z826 + (1:Int))))))))) else (inrO (some z823)))
noncomputable def ref12_Hold_j4 (a1 : api_Hold) (z857 : ((List Int))) : Option ((List Int)) :=
  ((ref02_Bytes z857 a1.Data).bind fun t865 => (some t865))
noncomputable def ref12_Hold_j2 (a1 : api_Hold) (z764 : ((List Int))) : Option ((List Int)) :=
  ((ref02_Num z764 (IntKind.u64.wrap ((a1.Puts).length : Int)) (4:Int)).bind fun t772 => (((loopO (ref12_Hold_l5 a1) (t772, (0:Int)))).bind (ref12_Hold_j4 a1)))
noncomputable def ref12_Hold_j0 (a1 : api_Hold) (z629 : ((List Int))) : Option ((List Int)) :=
  ((ref02_Num z629 (IntKind.u64.wrap ((a1.Scans).length : Int)) (4:Int)).bind fun t637 => (((loopO (ref12_Hold_l3 a1) (t637, (0:Int)))).bind (ref12_Hold_j2 a1)))
noncomputable def ref12_Hold (a0 : (List Int)) (a1 : api_Hold) : Option ((List Int)) :=
  ((ref12_ID a0 a1.ID).bind fun t526 => ((ref02_Num t526 a1.Epoch (8:Int)).bind fun t535 => ((ref02_Num t535 (IntKind.u64.wrap ((a1.Gets).length : Int)) (4:Int)).bind fun t544 => (((loopO (ref12_Hold_l1 a1) (t544, (0:Int)))).bind (ref12_Hold_j0 a1)))))

noncomputable def ref13_Writes_l0 (a1 : (List api_Write)) (s : ((List Int) × Int)) : Option (((List Int) × Int) ⊕ ((List Int))) :=
  match s with | (z446, z449) => (bif (decide (z449 < ((a1).length : Int))) then ((geto a1 z449).bind fun x459 => ((ref01_Rank x459.At).bind fun t470 => ((ref02_Num z446 t470 (8:Int)).bind fun t477 => ((ref02_Flag t477 x459.Del).bind fun t486 => ((ref02_Bytes t486 x459.Val).bind fun t495 => (some (Sum.inl (t495, (IntKind.i64.wrap (z449 + (1:Int))))))))))) else (inrO (some z446)))
noncomputable def ref13_Writes (a0 : (List Int)) (a1 : (List api_Write)) : Option ((List Int)) :=
  ((ref02_Num a0 (IntKind.u64.wrap ((a1).length : Int)) (4:Int)).bind fun t347 => (loopO (ref13_Writes_l0 a1) (t347, (0:Int))))

noncomputable def ref13_Rule (a0 : (List Int)) (a1 : api_Rule) : Option ((List Int)) :=
  ((ref02_Num a0 a1.ID (8:Int)).bind fun t469 => ((ref02_Num t469 (IntKind.u64.wrap a1.From) (1:Int)).bind fun t478 => ((ref02_Num t478 (IntKind.u64.wrap a1.To) (1:Int)).bind fun t487 => ((ref01_Rank a1.Lo).bind fun t494 => ((ref02_Num t487 t494 (8:Int)).bind fun t501 => ((ref01_Rank a1.Hi).bind fun t508 => ((ref02_Num t501 t508 (8:Int)).bind fun t515 => ((ref02_Num t515 a1.Authority (8:Int)).bind fun t524 => ((ref02_Num t524 (IntKind.u64.wrap a1.Quota) (4:Int)).bind fun t533 => (some t533))))))))))

noncomputable def ref13_Command_l1 (a0 : api_Command) (s : ((List Int) × Int)) : Option (((List Int) × Int) ⊕ ((List Int))) :=
  match s with | (z638, z641) => (bif (decide (z641 < ((a0.Parts).length : Int))) then ((geto a0.Parts z641).bind fun x651 => ((ref02_Num z638 (IntKind.u64.wrap x651.Shard) (1:Int)).bind fun t664 => ((ref13_Writes t664 x651.Writes).bind fun t673 => (some (Sum.inl (t673, (IntKind.i64.wrap (z641 + (1:Int))))))))) else (inrO (some z638)))
noncomputable def ref13_Command_j0 (a0 : api_Command) (z682 : ((List Int))) : Option ((List Int)) :=
  ((ref13_Reply z682 a0.R).bind fun t690 => (some t690))
noncomputable def ref13_Command (a0 : api_Command) : Option ((List Int)) :=
  ((ref02_Num ([]) (IntKind.u64.wrap a0.Kind) (1:Int)).bind fun t464 => (bif (a0.Kind == (1:Int)) then ((ref02_Num t464 a0.Epoch (8:Int)).bind fun t474 => (some t474)) else (bif (a0.Kind == (2:Int)) then ((ref12_Hold t464 a0.Hold).bind fun t484 => (some t484)) else (bif (a0.Kind == (3:Int)) then ((ref12_ID t464 a0.ID).bind fun t494 => ((ref02_Num t494 (IntKind.u64.wrap a0.E) (1:Int)).bind fun t503 => ((ref02_Num t503 a0.Epoch (8:Int)).bind fun t512 => ((ref02_Num t512 a0.Index (8:Int)).bind fun t521 => ((ref13_Writes t521 a0.Writes).bind fun t530 => (some t530)))))) else (bif (a0.Kind == (4:Int)) then ((ref12_ID t464 a0.ID).bind fun t540 => ((ref02_Num t540 a0.Epoch (8:Int)).bind fun t549 => ((ref02_Num t549 a0.Shards (2:Int)).bind fun t558 => ((ref02_Num t558 (IntKind.u64.wrap ((a0.Parts).length : Int)) (4:Int)).bind fun t567 => (((loopO (ref13_Command_l1 a0) (t567, (0:Int)))).bind (ref13_Command_j0 a0)))))) else (bif (a0.Kind == (5:Int)) then ((ref12_ID t464 a0.ID).bind fun t700 => (some t700)) else (bif (a0.Kind == (6:Int)) then ((ref13_Rule t464 a0.Rule).bind fun t710 => ((ref02_Flag t710 a0.On).bind fun t719 => (some t719))) else (bif (a0.Kind == (7:Int)) then ((ref12_ID t464 a0.ID).bind fun t729 => ((ref02_Num t729 a0.Epoch (8:Int)).bind fun t738 => ((ref13_Rule t738 a0.Rule).bind fun t747 => ((ref13_Writes t747 a0.Writes).bind fun t756 => ((ref13_Reply t756 a0.R).bind fun t765 => (some t765)))))) else (some t464)))))))))

noncomputable def law13_CommandBytes_l0 (s : (ref12_Tape × Int)) : Option ((ref12_Tape × Int) ⊕ (Bool)) :=
  match s with | (z874, z875) => (bif (decide (z875 < (6:Int))) then ((ref13_OfCommand z874).bind fun t886 => ((command_Encode t886.1).bind fun t938 => ((command_Decode t938).bind fun t948 => ((ref13_Command t886.1).bind fun t1000 => (bif (!(sEq (toStr t938) (toStr t1000))) then (inrO (some false)) else (bif (t948.2 != (0:Int)) then (inrO (some false)) else ((law13_same t886.1 t948.1).bind fun t1041 => (bif (!t1041) then (inrO (some false)) else (some (Sum.inl (t886.2, (IntKind.i64.wrap (z875 + (1:Int)))))))))))))) else (inrO (some true)))
noncomputable def law13_CommandBytes (a0 : (List Int)) : Option (Bool) :=
  (law13_awake.bind fun t525 => (bif (!t525) then (law13_awake.bind fun t531 => (some t531)) else (bif (decide (((a0).length : Int) > (300:Int))) then (law13_awake.bind fun t537 => (some t537)) else (loopO (law13_CommandBytes_l0) (({ L := a0, I := (0:Int) } : ref12_Tape), (0:Int))))))
end Go.Proofs.Ytijcfglomdfglaa
