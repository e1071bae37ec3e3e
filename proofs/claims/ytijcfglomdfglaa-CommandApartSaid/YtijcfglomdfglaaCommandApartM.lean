/- The models of the Go functions: plain Lean, no memory. -/
import Derived.Test.YtijcfglomdfglaaGvSlice
set_option linter.unusedVariables false
set_option linter.unusedSimpArgs false
set_option maxRecDepth 100000
set_option maxHeartbeats 4000000
namespace Go.Proofs.Ytijcfglomdfglaa
open Go Go.V
structure api_ID where
  Session : Int
  Seq : Int

structure api_Hold where
  ID : api_ID
  Epoch : Int
  Gets : (List Nat)
  Scans : (List (Nat × Nat))
  Puts : (List Nat)
  Data : (List Int)

structure api_Write where
  At : Nat
  Del : Bool
  Val : (List Int)

structure api_Got where
  Has : Bool
  Val : (List Int)

structure api_Pair where
  At : Nat
  Val : (List Int)

structure api_Reply where
  E : Int
  Epoch : Int
  Index : Int
  Gots : (List api_Got)
  Scans : (List (List api_Pair))

structure api_Part where
  Shard : Int
  Writes : (List api_Write)

structure api_Rule where
  ID : Int
  From : Int
  To : Int
  Lo : Nat
  Hi : Nat
  Authority : Int
  Quota : Int

structure api_Command where
  Kind : Int
  ID : api_ID
  Epoch : Int
  Index : Int
  E : Int
  Hold : api_Hold
  Writes : (List api_Write)
  R : api_Reply
  Shards : Int
  Parts : (List api_Part)
  Rule : api_Rule
  On : Bool

structure octet_Writer where
  p : (List Int)

structure ref12_Tape where
  L : (List Int)
  I : Int

structure octet_Reader where
  p : (List Int)
  bad : Bool

noncomputable def octet_Writer_lay (a0 : octet_Writer) (a1 : (List Int)) : Option (octet_Writer) :=
  (gd (room a0.p a1) (some ({ p := (a0.p ++ a1) } : octet_Writer)))

noncomputable def octet_Writer_Num_l0 (a2 : Int) (a1 : Int) (s : (octet_Writer × Int)) : Option ((octet_Writer × Int) ⊕ (octet_Writer)) :=
  match s with | (z125, z126) => (bif (decide (z126 < a2)) then (gd (decide ((0:Int) ≤ (IntKind.i64.wrap ((8:Int) * z126)))) ((octet_Writer_lay z125 ([(IntKind.u8.wrap (iShr .u64 a1 (IntKind.i64.wrap ((8:Int) * z126))))])).bind fun t144 => (some (Sum.inl (t144, (IntKind.i64.wrap (z126 + (1:Int)))))))) else (inrO (some z125)))
noncomputable def octet_Writer_Num (a0 : octet_Writer) (a1 : Int) (a2 : Int) : Option (octet_Writer) :=
  (loopO (octet_Writer_Num_l0 a2 a1) (a0, (0:Int)))

noncomputable def octet_Writer_Done (a0 : octet_Writer) : Option ((List Int)) :=
  (some a0.p)

noncomputable def math_IsNaN (a0 : Nat) : Option (Bool) :=
  (some (fNe a0 a0))

noncomputable def number_Rank (a0 : Nat) : Option (Int) :=
  ((math_IsNaN a0).bind fun t101 => (bif t101 then (some (18446744073709551615:Int)) else (bif ((iShr .u64 (Int.ofNat a0) (63:Int)) == (1:Int)) then (some (bXor .u64 ((18446744073709551615):Int) (Int.ofNat a0))) else (some (bOr .u64 (Int.ofNat a0) (9223372036854775808:Int))))))

noncomputable def octet_Writer_Bytes (a0 : octet_Writer) (a1 : (List Int)) : Option (octet_Writer) :=
  ((octet_Writer_Num a0 (IntKind.u64.wrap ((a1).length : Int)) (4:Int)).bind fun t361 => ((octet_Writer_lay t361 a1).bind fun t366 => (some t366)))

noncomputable def locks_Lay_l1 (a1 : api_Hold) (s : (octet_Writer × Int)) : Option ((octet_Writer × Int) ⊕ (octet_Writer)) :=
  match s with | (z416, z417) => (bif (decide (z417 < ((a1.Gets).length : Int))) then ((geto a1.Gets z417).bind fun x427 => ((number_Rank x427).bind fun t432 => ((octet_Writer_Num z416 t432 (8:Int)).bind fun t437 => (some (Sum.inl (t437, (IntKind.i64.wrap (z417 + (1:Int))))))))) else (inrO (some z416)))
noncomputable def locks_Lay_l3 (a1 : api_Hold) (s : (octet_Writer × Int)) : Option ((octet_Writer × Int) ⊕ (octet_Writer)) :=
  match s with | (z521, z522) => (bif (decide (z522 < ((a1.Scans).length : Int))) then ((geto a1.Scans z522).bind fun x532 => ((number_Rank x532.1).bind fun t544 => ((octet_Writer_Num z521 t544 (8:Int)).bind fun t549 => ((number_Rank x532.2).bind fun t554 => ((octet_Writer_Num t549 t554 (8:Int)).bind fun t559 => (some (Sum.inl (t559, (IntKind.i64.wrap (z522 + (1:Int))))))))))) else (inrO (some z521)))
noncomputable def locks_Lay_l5 (a1 : api_Hold) (s : (octet_Writer × Int)) : Option ((octet_Writer × Int) ⊕ (octet_Writer)) :=
  match s with | (z609, z610) => (bif (decide (z610 < ((a1.Puts).length : Int))) then ((geto a1.Puts z610).bind fun x620 => ((number_Rank x620).bind fun t625 => ((octet_Writer_Num z609 t625 (8:Int)).bind fun t630 => (some (Sum.inl (t630, (IntKind.i64.wrap (z610 + (1:Int))))))))) else (inrO (some z609)))
noncomputable def locks_Lay_j4 (a1 : api_Hold) (z635 : (octet_Writer)) : Option (octet_Writer) :=
  ((octet_Writer_Bytes z635 a1.Data).bind fun t641 => (some t641))
noncomputable def locks_Lay_j2 (a1 : api_Hold) (z564 : (octet_Writer)) : Option (octet_Writer) :=
  ((octet_Writer_Num z564 (IntKind.u64.wrap ((a1.Puts).length : Int)) (4:Int)).bind fun t570 => (((loopO (locks_Lay_l5 a1) (t570, (0:Int)))).bind (locks_Lay_j4 a1)))
noncomputable def locks_Lay_j0 (a1 : api_Hold) (z442 : (octet_Writer)) : Option (octet_Writer) :=
  ((octet_Writer_Num z442 (IntKind.u64.wrap ((a1.Scans).length : Int)) (4:Int)).bind fun t448 => (((loopO (locks_Lay_l3 a1) (t448, (0:Int)))).bind (locks_Lay_j2 a1)))
noncomputable def locks_Lay (a0 : octet_Writer) (a1 : api_Hold) : Option (octet_Writer) :=
  ((octet_Writer_Num a0 a1.ID.Session (8:Int)).bind fun t362 => ((octet_Writer_Num t362 a1.ID.Seq (8:Int)).bind fun t367 => ((octet_Writer_Num t367 a1.Epoch (8:Int)).bind fun t372 => ((octet_Writer_Num t372 (IntKind.u64.wrap ((a1.Gets).length : Int)) (4:Int)).bind fun t377 => (((loopO (locks_Lay_l1 a1) (t377, (0:Int)))).bind (locks_Lay_j0 a1))))))

noncomputable def octet_Writer_Flag (a0 : octet_Writer) (a1 : Bool) : Option (octet_Writer) :=
  (bif a1 then ((octet_Writer_Num a0 (1:Int) (1:Int)).bind fun t142 => (some t142)) else ((octet_Writer_Num a0 (0:Int) (1:Int)).bind fun t147 => (some t147)))

noncomputable def command_writes_l0 (a1 : (List api_Write)) (s : (octet_Writer × Int)) : Option ((octet_Writer × Int) ⊕ (octet_Writer)) :=
  match s with | (z329, z330) => (bif (decide (z330 < ((a1).length : Int))) then ((geto a1 z330).bind fun x340 => ((number_Rank x340.At).bind fun t359 => ((octet_Writer_Num z329 t359 (8:Int)).bind fun t364 => ((octet_Writer_Flag t364 x340.Del).bind fun t369 => ((octet_Writer_Bytes t369 x340.Val).bind fun t374 => (some (Sum.inl (t374, (IntKind.i64.wrap (z330 + (1:Int))))))))))) else (inrO (some z329)))
noncomputable def command_writes (a0 : octet_Writer) (a1 : (List api_Write)) : Option (octet_Writer) :=
  ((octet_Writer_Num a0 (IntKind.u64.wrap ((a1).length : Int)) (4:Int)).bind fun t242 => (loopO (command_writes_l0 a1) (t242, (0:Int))))

noncomputable def command_LayReply_l1 (a1 : api_Reply) (s : (octet_Writer × Int)) : Option ((octet_Writer × Int) ⊕ (octet_Writer)) :=
  match s with | (z897, z898) => (bif (decide (z898 < ((a1.Gots).length : Int))) then ((geto a1.Gots z898).bind fun x908 => ((octet_Writer_Flag z897 x908.Has).bind fun t927 => ((octet_Writer_Bytes t927 x908.Val).bind fun t932 => (some (Sum.inl (t932, (IntKind.i64.wrap (z898 + (1:Int))))))))) else (inrO (some z897)))
noncomputable def command_LayReply_l3 (x1229 : (List api_Pair)) (z1219 : Int) (s : (octet_Writer × Int)) : Option ((octet_Writer × Int) ⊕ ((octet_Writer × Int) ⊕ (octet_Writer))) :=
  match s with | (z1317, z1318) => (bif (decide (z1318 < ((x1229).length : Int))) then ((geto x1229 z1318).bind fun x1328 => ((number_Rank x1328.At).bind fun t1347 => ((octet_Writer_Num z1317 t1347 (8:Int)).bind fun t1352 => ((octet_Writer_Bytes t1352 x1328.Val).bind fun t1357 => (some (Sum.inl (t1357, (IntKind.i64.wrap (z1318 + (1:Int)))))))))) else (inrO (some (Sum.inl (z1317, (IntKind.i64.wrap (z1219 + (1:Int))))))))
noncomputable def command_LayReply_l2 (a1 : api_Reply) (s : (octet_Writer × Int)) : Option ((octet_Writer × Int) ⊕ (octet_Writer)) :=
  match s with | (z1218, z1219) => (bif (decide (z1219 < ((a1.Scans).length : Int))) then ((geto a1.Scans z1219).bind fun x1229 => ((octet_Writer_Num z1218 (IntKind.u64.wrap ((x1229).length : Int)) (4:Int)).bind fun t1240 => (loopO (command_LayReply_l3 x1229 z1219) (t1240, (0:Int))))) else (inrO (some z1218)))
noncomputable def command_LayReply_j0 (a1 : api_Reply) (z937 : (octet_Writer)) : Option (octet_Writer) :=
  ((octet_Writer_Num z937 (IntKind.u64.wrap ((a1.Scans).length : Int)) (4:Int)).bind fun t943 => (loopO (command_LayReply_l2 a1) (t943, (0:Int))))
noncomputable def command_LayReply (a0 : octet_Writer) (a1 : api_Reply) : Option (octet_Writer) :=
  ((octet_Writer_Num a0 (IntKind.u64.wrap a1.E) (1:Int)).bind fun t815 => ((octet_Writer_Num t815 a1.Epoch (8:Int)).bind fun t820 => ((octet_Writer_Num t820 a1.Index (8:Int)).bind fun t825 => ((octet_Writer_Num t825 (IntKind.u64.wrap ((a1.Gots).length : Int)) (4:Int)).bind fun t830 => (((loopO (command_LayReply_l1 a1) (t830, (0:Int)))).bind (command_LayReply_j0 a1))))))

noncomputable def command_layRule (a0 : octet_Writer) (a1 : api_Rule) : Option (octet_Writer) :=
  ((octet_Writer_Num a0 a1.ID (8:Int)).bind fun t345 => ((octet_Writer_Num t345 (IntKind.u64.wrap a1.From) (1:Int)).bind fun t350 => ((octet_Writer_Num t350 (IntKind.u64.wrap a1.To) (1:Int)).bind fun t355 => ((number_Rank a1.Lo).bind fun t360 => ((octet_Writer_Num t355 t360 (8:Int)).bind fun t365 => ((number_Rank a1.Hi).bind fun t370 => ((octet_Writer_Num t365 t370 (8:Int)).bind fun t375 => ((octet_Writer_Num t375 a1.Authority (8:Int)).bind fun t380 => ((octet_Writer_Num t380 (IntKind.u64.wrap a1.Quota) (4:Int)).bind fun t385 => (some t385))))))))))

noncomputable def command_Encode_l1 (a0 : api_Command) (s : (octet_Writer × Int)) : Option ((octet_Writer × Int) ⊕ (octet_Writer)) :=
  match s with | (z550, z551) => (bif (decide (z551 < ((a0.Parts).length : Int))) then ((geto a0.Parts z551).bind fun x561 => ((octet_Writer_Num z550 (IntKind.u64.wrap x561.Shard) (1:Int)).bind fun t580 => ((command_writes t580 x561.Writes).bind fun t585 => (some (Sum.inl (t585, (IntKind.i64.wrap (z551 + (1:Int))))))))) else (inrO (some z550)))
noncomputable def command_Encode_j0 (a0 : api_Command) (z590 : (octet_Writer)) : Option ((List Int)) :=
  ((command_LayReply z590 a0.R).bind fun t596 => ((octet_Writer_Done t596).bind fun t601 => (some t601)))
noncomputable def command_Encode (a0 : api_Command) : Option ((List Int)) :=
  ((octet_Writer_Num ({ p := [] } : octet_Writer) (IntKind.u64.wrap a0.Kind) (1:Int)).bind fun t383 => (bif (a0.Kind == (1:Int)) then ((octet_Writer_Num t383 a0.Epoch (8:Int)).bind fun t389 => ((octet_Writer_Done t389).bind fun t394 => (some t394))) else (bif (a0.Kind == (2:Int)) then ((locks_Lay t383 a0.Hold).bind fun t402 => ((octet_Writer_Done t402).bind fun t407 => (some t407))) else (bif (a0.Kind == (3:Int)) then (((octet_Writer_Num t383 a0.ID.Session (8:Int)).bind fun t415 => ((octet_Writer_Num t415 a0.ID.Seq (8:Int)).bind fun t420 => (some t420))).bind fun z425 => ((octet_Writer_Num z425 (IntKind.u64.wrap a0.E) (1:Int)).bind fun t430 => ((octet_Writer_Num t430 a0.Epoch (8:Int)).bind fun t435 => ((octet_Writer_Num t435 a0.Index (8:Int)).bind fun t440 => ((command_writes t440 a0.Writes).bind fun t445 => ((octet_Writer_Done t445).bind fun t450 => (some t450))))))) else (bif (a0.Kind == (4:Int)) then (((octet_Writer_Num t383 a0.ID.Session (8:Int)).bind fun t458 => ((octet_Writer_Num t458 a0.ID.Seq (8:Int)).bind fun t463 => (some t463))).bind fun z468 => ((octet_Writer_Num z468 a0.Epoch (8:Int)).bind fun t473 => ((octet_Writer_Num t473 a0.Shards (2:Int)).bind fun t478 => ((octet_Writer_Num t478 (IntKind.u64.wrap ((a0.Parts).length : Int)) (4:Int)).bind fun t483 => (((loopO (command_Encode_l1 a0) (t483, (0:Int)))).bind (command_Encode_j0 a0)))))) else (bif (a0.Kind == (5:Int)) then (((octet_Writer_Num t383 a0.ID.Session (8:Int)).bind fun t609 => ((octet_Writer_Num t609 a0.ID.Seq (8:Int)).bind fun t614 => (some t614))).bind fun z619 => ((octet_Writer_Done z619).bind fun t624 => (some t624))) else (bif (a0.Kind == (6:Int)) then ((command_layRule t383 a0.Rule).bind fun t632 => ((octet_Writer_Flag t632 a0.On).bind fun t637 => ((octet_Writer_Done t637).bind fun t642 => (some t642)))) else (bif (a0.Kind == (7:Int)) then (((octet_Writer_Num t383 a0.ID.Session (8:Int)).bind fun t650 => ((octet_Writer_Num t650 a0.ID.Seq (8:Int)).bind fun t655 => (some t655))).bind fun z660 => ((octet_Writer_Num z660 a0.Epoch (8:Int)).bind fun t665 => ((command_layRule t665 a0.Rule).bind fun t670 => ((command_writes t670 a0.Writes).bind fun t675 => ((command_LayReply t675 a0.R).bind fun t680 => ((octet_Writer_Done t680).bind fun t685 => (some t685))))))) else ((octet_Writer_Done t383).bind fun t692 => (some t692))))))))))

noncomputable def law13_awake : Option (Bool) :=
  ((command_Encode ({ Kind := (1:Int), ID := ({ Session := (0:Int), Seq := (0:Int) } : api_ID), Epoch := (3:Int), Index := (0:Int), E := (0:Int), Hold := ({ ID := ({ Session := (0:Int), Seq := (0:Int) } : api_ID), Epoch := (0:Int), Gets := [], Scans := [], Puts := [], Data := [] } : api_Hold), Writes := [], R := ({ E := (0:Int), Epoch := (0:Int), Index := (0:Int), Gots := [], Scans := [] } : api_Reply), Shards := (0:Int), Parts := [], Rule := ({ ID := (0:Int), From := (0:Int), To := (0:Int), Lo := (0:Nat), Hi := (0:Nat), Authority := (0:Int), Quota := (0:Int) } : api_Rule), On := false } : api_Command)).bind fun t43 => (bif (sEq (toStr t43) (ByteArray.mk #[1, 3, 0, 0, 0, 0, 0, 0, 0])) then (some true) else (some false)))

noncomputable def ref12_Tape_Next (a0 : ref12_Tape) (a1 : Int) : Option (Int × ref12_Tape) :=
  (bif (decide (a0.I ≥ ((a0.L).length : Int))) then (some ((0:Int), a0)) else ((geto a0.L (IntKind.i64.wrap ((IntKind.i64.wrap (a0.I + (1:Int))) - (1:Int)))).bind fun x74 => (gd (!(a1 == (0:Int))) (some ((Int.tmod (IntKind.i64.wrap x74) a1), ({ L := a0.L, I := (IntKind.i64.wrap (a0.I + (1:Int))) } : ref12_Tape))))))

noncomputable def ref12_Tape_Of (a0 : ref12_Tape) : Option (api_ID × ref12_Tape) :=
  ((ref12_Tape_Next a0 (4:Int)).bind fun t125 => ((ref12_Tape_Next t125.2 (4:Int)).bind fun t130 => (some (({ Session := (IntKind.u64.wrap t125.1), Seq := (IntKind.u64.wrap (IntKind.i64.wrap ((1:Int) + t130.1))) } : api_ID), t130.2))))

noncomputable def ref12_small (a0 : Int) : Option (Nat) :=
  ((geto ([(0:Nat), (4607182418800017408:Nat), (13830554455654793216:Nat), (4612811918334230528:Nat), (9094988921128908188:Nat), (18318360957983683996:Nat), (4602678819172646912:Nat), (4613937818241073152:Nat)]) (Int.tmod a0 (8:Int))).bind fun x153 => (some x153))

noncomputable def ref12_Tape_Float (a0 : ref12_Tape) : Option (Nat × ref12_Tape) :=
  ((ref12_Tape_Next a0 (8:Int)).bind fun t144 => ((ref12_small (IntKind.u8.wrap t144.1)).bind fun t149 => (some (t149, t144.2))))

noncomputable def ref12_Tape_Val_l0 (t541 : (Int × ref12_Tape)) (s : (ref12_Tape × (List Int) × Int)) : Option ((ref12_Tape × (List Int) × Int) ⊕ ((List Int) × ref12_Tape)) :=
  match s with | (z596, z597, z600) => (bif (decide (z600 < t541.1)) then ((ref12_Tape_Next z596 (26:Int)).bind fun t610 => (gd (room z597 ([(IntKind.u8.wrap (IntKind.i64.wrap ((97:Int) + t610.1)))])) (some (Sum.inl (t610.2, (z597 ++ ([(IntKind.u8.wrap (IntKind.i64.wrap ((97:Int) + t610.1)))])), (IntKind.i64.wrap (z600 + (1:Int)))))))) else (inrO (some (z597, z596))))
noncomputable def ref12_Tape_Val (a0 : ref12_Tape) : Option ((List Int) × ref12_Tape) :=
  ((ref12_Tape_Next a0 (4:Int)).bind fun t541 => (loopO (ref12_Tape_Val_l0 t541) (t541.2, [], (0:Int))))

noncomputable def ref12_Tape_Hold_l1 (t500 : (Int × ref12_Tape)) (s : ((List Nat) × ref12_Tape × Int)) : Option (((List Nat) × ref12_Tape × Int) ⊕ (ref12_Tape × (List Nat))) :=
  match s with | (z561, z564, z565) => (bif (decide (z565 < t500.1)) then ((ref12_Tape_Float z564).bind fun t575 => (gd (room z561 ([t575.1])) (some (Sum.inl ((z561 ++ ([t575.1])), t575.2, (IntKind.i64.wrap (z565 + (1:Int)))))))) else (inrO (some (z564, z561))))
noncomputable def ref12_Tape_Hold_l3 (t600 : (Int × ref12_Tape)) (s : ((List (Nat × Nat)) × ref12_Tape × Int)) : Option (((List (Nat × Nat)) × ref12_Tape × Int) ⊕ (ref12_Tape × (List (Nat × Nat)))) :=
  match s with | (z676, z679, z680) => (bif (decide (z680 < (IntKind.i64.wrap (Int.tdiv t600.1 (2:Int))))) then ((ref12_Tape_Float z679).bind fun t690 => ((ref12_Tape_Float t690.2).bind fun t695 => (gd (room z676 ([(t690.1, t695.1)])) (some (Sum.inl ((z676 ++ ([(t690.1, t695.1)])), t695.2, (IntKind.i64.wrap (z680 + (1:Int))))))))) else (inrO (some (z679, z676))))
noncomputable def ref12_Tape_Hold_l5 (t720 : (Int × ref12_Tape)) (s : ((List Nat) × ref12_Tape × Int)) : Option (((List Nat) × ref12_Tape × Int) ⊕ (ref12_Tape × (List Nat))) :=
  match s with | (z781, z784, z785) => (bif (decide (z785 < t720.1)) then ((ref12_Tape_Float z784).bind fun t795 => (gd (room z781 ([t795.1])) (some (Sum.inl ((z781 ++ ([t795.1])), t795.2, (IntKind.i64.wrap (z785 + (1:Int)))))))) else (inrO (some (z784, z781))))
noncomputable def ref12_Tape_Hold_j4 (t475 : (api_ID × ref12_Tape)) (t480 : (Int × ref12_Tape)) (z594 : (List Nat)) (z714 : (List (Nat × Nat))) (s : (ref12_Tape × (List Nat))) : Option (api_Hold × ref12_Tape) :=
  match s with | (z811, z814) => ((ref12_Tape_Next z811 (4:Int)).bind fun t820 => (bif (t820.1 == (0:Int)) then ((ref12_Tape_Val t820.2).bind fun t826 => (some (({ ID := t475.1, Epoch := (IntKind.u64.wrap (IntKind.i64.wrap ((1:Int) + t480.1))), Gets := z594, Scans := z714, Puts := z814, Data := t826.1 } : api_Hold), t826.2))) else (some (({ ID := t475.1, Epoch := (IntKind.u64.wrap (IntKind.i64.wrap ((1:Int) + t480.1))), Gets := z594, Scans := z714, Puts := z814, Data := [] } : api_Hold), t820.2))))
noncomputable def ref12_Tape_Hold_j2 (t475 : (api_ID × ref12_Tape)) (t480 : (Int × ref12_Tape)) (z594 : (List Nat)) (s : (ref12_Tape × (List (Nat × Nat)))) : Option (api_Hold × ref12_Tape) :=
  match s with | (z711, z714) => ((ref12_Tape_Next z711 (3:Int)).bind fun t720 => (((loopO (ref12_Tape_Hold_l5 t720) ([], t720.2, (0:Int)))).bind (ref12_Tape_Hold_j4 t475 t480 z594 z714)))
noncomputable def ref12_Tape_Hold_j0 (t475 : (api_ID × ref12_Tape)) (t480 : (Int × ref12_Tape)) (s : (ref12_Tape × (List Nat))) : Option (api_Hold × ref12_Tape) :=
  match s with | (z591, z594) => ((ref12_Tape_Next z591 (3:Int)).bind fun t600 => (((loopO (ref12_Tape_Hold_l3 t600) ([], t600.2, (0:Int)))).bind (ref12_Tape_Hold_j2 t475 t480 z594)))
noncomputable def ref12_Tape_Hold (a0 : ref12_Tape) : Option (api_Hold × ref12_Tape) :=
  ((ref12_Tape_Of a0).bind fun t475 => ((ref12_Tape_Next t475.2 (4:Int)).bind fun t480 => ((ref12_Tape_Next t480.2 (3:Int)).bind fun t500 => (((loopO (ref12_Tape_Hold_l1 t500) ([], t500.2, (0:Int)))).bind (ref12_Tape_Hold_j0 t475 t480)))))

noncomputable def ref13_OfWrites_j1 (z552 : (List api_Write)) (t566 : (Nat × ref12_Tape)) (t571 : (Int × ref12_Tape)) (z555 : Int) (s : (ref12_Tape × (List Int))) : Option ((ref12_Tape × (List api_Write) × Int) ⊕ ((List api_Write) × ref12_Tape)) :=
  match s with | (z595, z598) => (gd (room z552 ([({ At := t566.1, Del := (t571.1 == (0:Int)), Val := z598 } : api_Write)])) (some (Sum.inl (z595, (z552 ++ ([({ At := t566.1, Del := (t571.1 == (0:Int)), Val := z598 } : api_Write)])), (IntKind.i64.wrap (z555 + (1:Int)))))))
noncomputable def ref13_OfWrites_l0 (t385 : (Int × ref12_Tape)) (s : (ref12_Tape × (List api_Write) × Int)) : Option ((ref12_Tape × (List api_Write) × Int) ⊕ ((List api_Write) × ref12_Tape)) :=
  match s with | (z551, z552, z555) => (bif (decide (z555 < t385.1)) then ((ref12_Tape_Float z551).bind fun t566 => ((ref12_Tape_Next t566.2 (4:Int)).bind fun t571 => (((bif (!(t571.1 == (0:Int))) then ((ref12_Tape_Val t571.2).bind fun t586 => (some (t586.2, t586.1))) else (some (t571.2, [])))).bind (ref13_OfWrites_j1 z552 t566 t571 z555)))) else (inrO (some (z552, z551))))
noncomputable def ref13_OfWrites (a0 : ref12_Tape) : Option ((List api_Write) × ref12_Tape) :=
  ((ref12_Tape_Next a0 (3:Int)).bind fun t385 => (loopO (ref13_OfWrites_l0 t385) (t385.2, [], (0:Int))))

noncomputable def ref13_OfReply_l2 (t1389 : (Int × ref12_Tape)) (s : ((List api_Got) × ref12_Tape × Int)) : Option (((List api_Got) × ref12_Tape × Int) ⊕ (ref12_Tape × (List api_Got))) :=
  match s with | (z1486, z1489, z1490) => (bif (decide (z1490 < t1389.1)) then ((ref12_Tape_Next z1489 (2:Int)).bind fun t1501 => ((ref12_Tape_Val t1501.2).bind fun t1506 => (gd (room z1486 ([({ Has := (t1501.1 == (0:Int)), Val := t1506.1 } : api_Got)])) (some (Sum.inl ((z1486 ++ ([({ Has := (t1501.1 == (0:Int)), Val := t1506.1 } : api_Got)])), t1506.2, (IntKind.i64.wrap (z1490 + (1:Int))))))))) else (inrO (some (z1489, z1486))))
noncomputable def ref13_OfReply_l5 (t2046 : (Int × ref12_Tape)) (s : (ref12_Tape × Int × (List api_Pair))) : Option ((ref12_Tape × Int × (List api_Pair)) ⊕ (ref12_Tape × (List api_Pair))) :=
  match s with | (z2137, z2138, z2139) => (bif (decide (z2138 < t2046.1)) then ((ref12_Tape_Float z2137).bind fun t2152 => ((ref12_Tape_Val t2152.2).bind fun t2157 => (gd (room z2139 ([({ At := t2152.1, Val := t2157.1 } : api_Pair)])) (some (Sum.inl (t2157.2, (IntKind.i64.wrap (z2138 + (1:Int))), (z2139 ++ ([({ At := t2152.1, Val := t2157.1 } : api_Pair)])))))))) else (inrO (some (z2137, z2139))))
noncomputable def ref13_OfReply_j4 (z2030 : (List (List api_Pair))) (z2034 : Int) (s : (ref12_Tape × (List api_Pair))) : Option (((List (List api_Pair)) × ref12_Tape × Int) ⊕ (api_Reply × ref12_Tape)) :=
  match s with | (z2178, z2181) => (gd (room z2030 ([z2181])) (some (Sum.inl ((z2030 ++ ([z2181])), z2178, (IntKind.i64.wrap (z2034 + (1:Int)))))))
noncomputable def ref13_OfReply_l3 (t1540 : (Int × ref12_Tape)) (z1381 : Int) (z1382 : Int) (z1383 : Int) (z1532 : (List api_Got)) (s : ((List (List api_Pair)) × ref12_Tape × Int)) : Option (((List (List api_Pair)) × ref12_Tape × Int) ⊕ (api_Reply × ref12_Tape)) :=
  match s with | (z2030, z2033, z2034) => (bif (decide (z2034 < (IntKind.i64.wrap (Int.tdiv t1540.1 (2:Int))))) then ((ref12_Tape_Next z2033 (3:Int)).bind fun t2046 => (((loopO (ref13_OfReply_l5 t2046) (t2046.2, (0:Int), []))).bind (ref13_OfReply_j4 z2030 z2034))) else (inrO (some (({ E := z1381, Epoch := z1382, Index := z1383, Gots := z1532, Scans := z2030 } : api_Reply), z2033))))
noncomputable def ref13_OfReply_j1 (z1381 : Int) (z1382 : Int) (z1383 : Int) (s : (ref12_Tape × (List api_Got))) : Option (api_Reply × ref12_Tape) :=
  match s with | (z1529, z1532) => ((ref12_Tape_Next z1529 (3:Int)).bind fun t1540 => (loopO (ref13_OfReply_l3 t1540 z1381 z1382 z1383 z1532) ([], t1540.2, (0:Int))))
noncomputable def ref13_OfReply_j0 (s : (ref12_Tape × Int × Int × Int)) : Option (api_Reply × ref12_Tape) :=
  match s with | (z1378, z1381, z1382, z1383) => ((ref12_Tape_Next z1378 (3:Int)).bind fun t1389 => (((loopO (ref13_OfReply_l2 t1389) ([], t1389.2, (0:Int)))).bind (ref13_OfReply_j1 z1381 z1382 z1383)))
noncomputable def ref13_OfReply (a0 : ref12_Tape) : Option (api_Reply × ref12_Tape) :=
  ((((ref12_Tape_Next a0 (6:Int)).bind fun t1279 => ((geto ([(0:Int), (0:Int), (0:Int), (8:Int), (9:Int), (3:Int)]) t1279.1).bind fun x1284 => ((ref12_Tape_Next t1279.2 (4:Int)).bind fun t1289 => ((ref12_Tape_Next t1289.2 (9:Int)).bind fun t1294 => (some (t1294.2, x1284, (IntKind.u64.wrap t1289.1), (IntKind.u64.wrap t1294.1)))))))).bind (ref13_OfReply_j0))

noncomputable def ref13_OfRule (a0 : ref12_Tape) : Option (api_Rule × ref12_Tape) :=
  ((ref12_Tape_Next a0 (3:Int)).bind fun t399 => ((ref12_Tape_Next t399.2 (4:Int)).bind fun t404 => ((ref12_Tape_Next t404.2 (4:Int)).bind fun t409 => ((ref12_Tape_Float t409.2).bind fun t414 => ((ref12_Tape_Float t414.2).bind fun t419 => ((ref12_Tape_Next t419.2 (2:Int)).bind fun t424 => ((ref12_Tape_Next t424.2 (3:Int)).bind fun t429 => (some (({ ID := (IntKind.u64.wrap t399.1), From := t404.1, To := t409.1, Lo := t414.1, Hi := t419.1, Authority := (IntKind.u64.wrap t424.1), Quota := t429.1 } : api_Rule), t429.2)))))))))

noncomputable def ref13_OfCommand_l2 (t569 : (Int × ref12_Tape)) (s : ((List api_Part) × ref12_Tape × Int)) : Option (((List api_Part) × ref12_Tape × Int) ⊕ (ref12_Tape × (List api_Part))) :=
  match s with | (z651, z654, z655) => (bif (decide (z655 < t569.1)) then ((ref13_OfWrites z654).bind fun t666 => (gd (room z651 ([({ Shard := z655, Writes := t666.1 } : api_Part)])) (some (Sum.inl ((z651 ++ ([({ Shard := z655, Writes := t666.1 } : api_Part)])), t666.2, (IntKind.i64.wrap (z655 + (1:Int)))))))) else (inrO (some (z654, z651))))
noncomputable def ref13_OfCommand_j1 (t426 : (Int × ref12_Tape)) (z549 : Int) (t533 : (api_ID × ref12_Tape)) (t555 : (Int × ref12_Tape)) (t562 : (Int × ref12_Tape)) (s : (ref12_Tape × (List api_Part))) : Option (api_Command × ref12_Tape) :=
  match s with | (z689, z692) => ((ref13_OfReply z689).bind fun t700 => (some (({ Kind := (IntKind.u8.wrap (IntKind.i64.wrap ((1:Int) + t426.1))), ID := ({ Session := z549, Seq := t533.1.Seq } : api_ID), Epoch := (IntKind.u64.wrap (IntKind.i64.wrap ((1:Int) + t555.1))), Index := (0:Int), E := (0:Int), Hold := ({ ID := ({ Session := (0:Int), Seq := (0:Int) } : api_ID), Epoch := (0:Int), Gets := [], Scans := [], Puts := [], Data := [] } : api_Hold), Writes := [], R := t700.1, Shards := (IntKind.u64.wrap t562.1), Parts := z692, Rule := ({ ID := (0:Int), From := (0:Int), To := (0:Int), Lo := (0:Nat), Hi := (0:Nat), Authority := (0:Int), Quota := (0:Int) } : api_Rule), On := false } : api_Command), t700.2)))
noncomputable def ref13_OfCommand_j0 (t426 : (Int × ref12_Tape)) (t533 : (api_ID × ref12_Tape)) (s : (ref12_Tape × Int)) : Option (api_Command × ref12_Tape) :=
  match s with | (z548, z549) => ((ref12_Tape_Next z548 (4:Int)).bind fun t555 => ((ref12_Tape_Next t555.2 (4:Int)).bind fun t562 => ((ref12_Tape_Next t562.2 (3:Int)).bind fun t569 => (((loopO (ref13_OfCommand_l2 t569) ([], t569.2, (0:Int)))).bind (ref13_OfCommand_j1 t426 z549 t533 t555 t562)))))
noncomputable def ref13_OfCommand (a0 : ref12_Tape) : Option (api_Command × ref12_Tape) :=
  ((ref12_Tape_Next a0 (7:Int)).bind fun t426 => (bif ((IntKind.u8.wrap (IntKind.i64.wrap ((1:Int) + t426.1))) == (1:Int)) then ((ref12_Tape_Next t426.2 (4:Int)).bind fun t455 => (some (({ Kind := (IntKind.u8.wrap (IntKind.i64.wrap ((1:Int) + t426.1))), ID := ({ Session := (0:Int), Seq := (0:Int) } : api_ID), Epoch := (IntKind.u64.wrap (IntKind.i64.wrap ((1:Int) + t455.1))), Index := (0:Int), E := (0:Int), Hold := ({ ID := ({ Session := (0:Int), Seq := (0:Int) } : api_ID), Epoch := (0:Int), Gets := [], Scans := [], Puts := [], Data := [] } : api_Hold), Writes := [], R := ({ E := (0:Int), Epoch := (0:Int), Index := (0:Int), Gots := [], Scans := [] } : api_Reply), Shards := (0:Int), Parts := [], Rule := ({ ID := (0:Int), From := (0:Int), To := (0:Int), Lo := (0:Nat), Hi := (0:Nat), Authority := (0:Int), Quota := (0:Int) } : api_Rule), On := false } : api_Command), t455.2))) else (bif ((IntKind.u8.wrap (IntKind.i64.wrap ((1:Int) + t426.1))) == (2:Int)) then ((ref12_Tape_Hold t426.2).bind fun t465 => (some (({ Kind := (IntKind.u8.wrap (IntKind.i64.wrap ((1:Int) + t426.1))), ID := ({ Session := (0:Int), Seq := (0:Int) } : api_ID), Epoch := (0:Int), Index := (0:Int), E := (0:Int), Hold := t465.1, Writes := [], R := ({ E := (0:Int), Epoch := (0:Int), Index := (0:Int), Gots := [], Scans := [] } : api_Reply), Shards := (0:Int), Parts := [], Rule := ({ ID := (0:Int), From := (0:Int), To := (0:Int), Lo := (0:Nat), Hi := (0:Nat), Authority := (0:Int), Quota := (0:Int) } : api_Rule), On := false } : api_Command), t465.2))) else (bif ((IntKind.u8.wrap (IntKind.i64.wrap ((1:Int) + t426.1))) == (3:Int)) then ((ref12_Tape_Of t426.2).bind fun t483 => ((ref12_Tape_Next t483.2 (3:Int)).bind fun t495 => ((geto ([(0:Int), (0:Int), (8:Int)]) t495.1).bind fun x500 => ((ref12_Tape_Next t495.2 (4:Int)).bind fun t507 => ((ref12_Tape_Next t507.2 (20:Int)).bind fun t514 => ((ref13_OfWrites t514.2).bind fun t521 => (some (({ Kind := (IntKind.u8.wrap (IntKind.i64.wrap ((1:Int) + t426.1))), ID := t483.1, Epoch := (IntKind.u64.wrap (IntKind.i64.wrap ((1:Int) + t507.1))), Index := (IntKind.u64.wrap t514.1), E := x500, Hold := ({ ID := ({ Session := (0:Int), Seq := (0:Int) } : api_ID), Epoch := (0:Int), Gets := [], Scans := [], Puts := [], Data := [] } : api_Hold), Writes := t521.1, R := ({ E := (0:Int), Epoch := (0:Int), Index := (0:Int), Gots := [], Scans := [] } : api_Reply), Shards := (0:Int), Parts := [], Rule := ({ ID := (0:Int), From := (0:Int), To := (0:Int), Lo := (0:Nat), Hi := (0:Nat), Authority := (0:Int), Quota := (0:Int) } : api_Rule), On := false } : api_Command), t521.2)))))))) else (bif ((IntKind.u8.wrap (IntKind.i64.wrap ((1:Int) + t426.1))) == (4:Int)) then ((ref12_Tape_Of t426.2).bind fun t533 => ((((ref12_Tape_Next t533.2 (6:Int)).bind fun t540 => (bif (t540.1 == (0:Int)) then (some (t540.2, (IntKind.u64.wrap (t533.1.Session + (9223372036854775808:Int))))) else (some (t540.2, t533.1.Session))))).bind (ref13_OfCommand_j0 t426 t533))) else (bif ((IntKind.u8.wrap (IntKind.i64.wrap ((1:Int) + t426.1))) == (5:Int)) then ((ref12_Tape_Of t426.2).bind fun t714 => (some (({ Kind := (IntKind.u8.wrap (IntKind.i64.wrap ((1:Int) + t426.1))), ID := t714.1, Epoch := (0:Int), Index := (0:Int), E := (0:Int), Hold := ({ ID := ({ Session := (0:Int), Seq := (0:Int) } : api_ID), Epoch := (0:Int), Gets := [], Scans := [], Puts := [], Data := [] } : api_Hold), Writes := [], R := ({ E := (0:Int), Epoch := (0:Int), Index := (0:Int), Gots := [], Scans := [] } : api_Reply), Shards := (0:Int), Parts := [], Rule := ({ ID := (0:Int), From := (0:Int), To := (0:Int), Lo := (0:Nat), Hi := (0:Nat), Authority := (0:Int), Quota := (0:Int) } : api_Rule), On := false } : api_Command), t714.2))) else (bif ((IntKind.u8.wrap (IntKind.i64.wrap ((1:Int) + t426.1))) == (6:Int)) then ((ref13_OfRule t426.2).bind fun t724 => ((ref12_Tape_Next t724.2 (3:Int)).bind fun t731 => (some (({ Kind := (IntKind.u8.wrap (IntKind.i64.wrap ((1:Int) + t426.1))), ID := ({ Session := (0:Int), Seq := (0:Int) } : api_ID), Epoch := (0:Int), Index := (0:Int), E := (0:Int), Hold := ({ ID := ({ Session := (0:Int), Seq := (0:Int) } : api_ID), Epoch := (0:Int), Gets := [], Scans := [], Puts := [], Data := [] } : api_Hold), Writes := [], R := ({ E := (0:Int), Epoch := (0:Int), Index := (0:Int), Gots := [], Scans := [] } : api_Reply), Shards := (0:Int), Parts := [], Rule := t724.1, On := (decide (t731.1 > (0:Int))) } : api_Command), t731.2)))) else (bif ((IntKind.u8.wrap (IntKind.i64.wrap ((1:Int) + t426.1))) == (7:Int)) then ((ref12_Tape_Of t426.2).bind fun t741 => ((ref12_Tape_Next t741.2 (4:Int)).bind fun t748 => ((ref13_OfRule t748.2).bind fun t755 => ((ref13_OfWrites t755.2).bind fun t762 => ((ref13_OfReply t762.2).bind fun t771 => (some (({ Kind := (IntKind.u8.wrap (IntKind.i64.wrap ((1:Int) + t426.1))), ID := t741.1, Epoch := (IntKind.u64.wrap (IntKind.i64.wrap ((1:Int) + t748.1))), Index := (0:Int), E := (0:Int), Hold := ({ ID := ({ Session := (0:Int), Seq := (0:Int) } : api_ID), Epoch := (0:Int), Gets := [], Scans := [], Puts := [], Data := [] } : api_Hold), Writes := t762.1, R := t771.1, Shards := (0:Int), Parts := [], Rule := t755.1, On := false } : api_Command), t771.2))))))) else (some (({ Kind := (IntKind.u8.wrap (IntKind.i64.wrap ((1:Int) + t426.1))), ID := ({ Session := (0:Int), Seq := (0:Int) } : api_ID), Epoch := (0:Int), Index := (0:Int), E := (0:Int), Hold := ({ ID := ({ Session := (0:Int), Seq := (0:Int) } : api_ID), Epoch := (0:Int), Gets := [], Scans := [], Puts := [], Data := [] } : api_Hold), Writes := [], R := ({ E := (0:Int), Epoch := (0:Int), Index := (0:Int), Gots := [], Scans := [] } : api_Reply), Shards := (0:Int), Parts := [], Rule := ({ ID := (0:Int), From := (0:Int), To := (0:Int), Lo := (0:Nat), Hi := (0:Nat), Authority := (0:Int), Quota := (0:Int) } : api_Rule), On := false } : api_Command), t426.2))))))))))

noncomputable def math_Signbit (a0 : Nat) : Option (Bool) :=
  (some (decide ((IntKind.i64.wrap (Int.ofNat a0)) < (0:Int))))

noncomputable def ref01_Ahead_j0 (a0 : Nat) (a1 : Nat) (_s : Unit) : Option (Bool) :=
  (some (fLt a0 a1))
noncomputable def ref01_Ahead (a0 : Nat) (a1 : Nat) : Option (Bool) :=
  (bif (fNe a0 a0) then (some false) else (bif (fNe a1 a1) then (some true) else (joinO (bif (fEq a0 (0:Nat)) then (bif (fEq a1 (0:Nat)) then ((math_Signbit a0).bind fun t190 => (bif t190 then ((math_Signbit a1).bind fun t196 => (inrO (some (!t196)))) else (inrO (some false)))) else (some (Sum.inl ()))) else (some (Sum.inl ()))) (ref01_Ahead_j0 a0 a1))))

noncomputable def ref01_Same (a0 : Nat) (a1 : Nat) : Option (Bool) :=
  ((ref01_Ahead a0 a1).bind fun t177 => (bif (!t177) then ((ref01_Ahead a1 a0).bind fun t183 => (some (!t183))) else (some false)))

noncomputable def ref11_SameHold_l1 (a0 : api_Hold) (a1 : api_Hold) (z435 : (Int)) : Option ((Int) ⊕ (Unit ⊕ (Bool))) :=
  (bif (decide (z435 < ((a0.Gets).length : Int))) then ((geto a0.Gets z435).bind fun x445 => ((geto a1.Gets z435).bind fun x450 => ((ref01_Same x445 x450).bind fun t455 => (bif (!t455) then (inrO (inrO (some false))) else (some (Sum.inl (IntKind.i64.wrap (z435 + (1:Int))))))))) else (inrO (some (Sum.inl ()))))
noncomputable def ref11_SameHold_l3 (a0 : api_Hold) (a1 : api_Hold) (z513 : (Int)) : Option ((Int) ⊕ (Unit ⊕ (Bool))) :=
  (bif (decide (z513 < ((a0.Scans).length : Int))) then ((geto a0.Scans z513).bind fun x523 => ((geto a1.Scans z513).bind fun x528 => ((ref01_Same x523.1 x528.1).bind fun t533 => (bif (!t533) then (inrO (inrO (some false))) else ((ref01_Same x523.2 x528.2).bind fun t539 => (bif (!t539) then (inrO (inrO (some false))) else (some (Sum.inl (IntKind.i64.wrap (z513 + (1:Int))))))))))) else (inrO (some (Sum.inl ()))))
noncomputable def ref11_SameHold_l4 (a0 : api_Hold) (a1 : api_Hold) (z585 : (Int)) : Option ((Int) ⊕ (Bool)) :=
  (bif (decide (z585 < ((a0.Puts).length : Int))) then ((geto a0.Puts z585).bind fun x595 => ((geto a1.Puts z585).bind fun x600 => ((ref01_Same x595 x600).bind fun t605 => (bif (!t605) then (inrO (some false)) else (some (Sum.inl (IntKind.i64.wrap (z585 + (1:Int))))))))) else (inrO (some true)))
noncomputable def ref11_SameHold_j2 (a0 : api_Hold) (a1 : api_Hold) (_s : Unit) : Option (Bool) :=
  (loopO (ref11_SameHold_l4 a0 a1) (0:Int))
noncomputable def ref11_SameHold_j0 (a0 : api_Hold) (a1 : api_Hold) (_s : Unit) : Option (Bool) :=
  (joinO (loopO (ref11_SameHold_l3 a0 a1) (0:Int)) (ref11_SameHold_j2 a0 a1))
noncomputable def ref11_SameHold (a0 : api_Hold) (a1 : api_Hold) : Option (Bool) :=
  (bif (!((a0.ID.Session == a1.ID.Session) && (a0.ID.Seq == a1.ID.Seq))) then (some false) else (bif (a0.Epoch != a1.Epoch) then (some false) else (bif (((a0.Gets).length : Int) != ((a1.Gets).length : Int)) then (some false) else (bif (((a0.Scans).length : Int) != ((a1.Scans).length : Int)) then (some false) else (bif (((a0.Puts).length : Int) != ((a1.Puts).length : Int)) then (some false) else (bif (!(sEq (toStr a0.Data) (toStr a1.Data))) then (some false) else (joinO (loopO (ref11_SameHold_l1 a0 a1) (0:Int)) (ref11_SameHold_j0 a0 a1))))))))

noncomputable def ref13_SameWrites_l0 (a0 : (List api_Write)) (a1 : (List api_Write)) (z379 : (Int)) : Option ((Int) ⊕ (Bool)) :=
  (bif (decide (z379 < ((a0).length : Int))) then ((geto a0 z379).bind fun x389 => ((geto a1 z379).bind fun x400 => ((ref01_Same x389.At x400.At).bind fun t411 => (bif (!t411) then (inrO (some false)) else (bif (!(x389.Del == x400.Del)) then (inrO (some false)) else (bif (!(sEq (toStr x389.Val) (toStr x400.Val))) then (inrO (some false)) else (some (Sum.inl (IntKind.i64.wrap (z379 + (1:Int))))))))))) else (inrO (some true)))
noncomputable def ref13_SameWrites (a0 : (List api_Write)) (a1 : (List api_Write)) : Option (Bool) :=
  (bif (((a0).length : Int) != ((a1).length : Int)) then (some false) else (loopO (ref13_SameWrites_l0 a0 a1) (0:Int)))

noncomputable def ref11_SameGots_l0 (a0 : (List api_Got)) (a1 : (List api_Got)) (z312 : (Int)) : Option ((Int) ⊕ (Bool)) :=
  (bif (decide (z312 < ((a0).length : Int))) then ((geto a0 z312).bind fun x322 => ((geto a1 z312).bind fun x333 => (bif (!(x322.Has == x333.Has)) then (inrO (some false)) else (bif (!(sEq (toStr x322.Val) (toStr x333.Val))) then (inrO (some false)) else (some (Sum.inl (IntKind.i64.wrap (z312 + (1:Int))))))))) else (inrO (some true)))
noncomputable def ref11_SameGots (a0 : (List api_Got)) (a1 : (List api_Got)) : Option (Bool) :=
  (bif (((a0).length : Int) != ((a1).length : Int)) then (some false) else (loopO (ref11_SameGots_l0 a0 a1) (0:Int)))

noncomputable def ref11_SamePairs_l0 (a0 : (List api_Pair)) (a1 : (List api_Pair)) (z405 : (Int)) : Option ((Int) ⊕ (Bool)) :=
  (bif (decide (z405 < ((a0).length : Int))) then ((geto a0 z405).bind fun x415 => ((geto a1 z405).bind fun x426 => ((ref01_Same x415.At x426.At).bind fun t437 => (bif (!t437) then (inrO (some false)) else (bif (!(sEq (toStr x415.Val) (toStr x426.Val))) then (inrO (some false)) else (some (Sum.inl (IntKind.i64.wrap (z405 + (1:Int)))))))))) else (inrO (some true)))
noncomputable def ref11_SamePairs (a0 : (List api_Pair)) (a1 : (List api_Pair)) : Option (Bool) :=
  (bif (((a0).length : Int) != ((a1).length : Int)) then (some false) else (loopO (ref11_SamePairs_l0 a0 a1) (0:Int)))

noncomputable def ref11_SameReply_l0 (a0 : api_Reply) (a1 : api_Reply) (z357 : (Int)) : Option ((Int) ⊕ (Bool)) :=
  (bif (decide (z357 < ((a0.Scans).length : Int))) then ((geto a0.Scans z357).bind fun x367 => ((geto a1.Scans z357).bind fun x378 => ((ref11_SamePairs x367 x378).bind fun t389 => (bif (!t389) then (inrO (some false)) else (some (Sum.inl (IntKind.i64.wrap (z357 + (1:Int))))))))) else (inrO (some true)))
noncomputable def ref11_SameReply (a0 : api_Reply) (a1 : api_Reply) : Option (Bool) :=
  (bif (a0.E != a1.E) then (some false) else (bif (a0.Epoch != a1.Epoch) then (some false) else (bif (a0.Index != a1.Index) then (some false) else ((ref11_SameGots a0.Gots a1.Gots).bind fun t291 => (bif (!t291) then (some false) else (bif (((a0.Scans).length : Int) != ((a1.Scans).length : Int)) then (some false) else (loopO (ref11_SameReply_l0 a0 a1) (0:Int))))))))

noncomputable def ref11_SameRule (a0 : api_Rule) (a1 : api_Rule) : Option (Bool) :=
  (bif (a0.ID == a1.ID) then (bif (a0.From == a1.From) then (bif (a0.To == a1.To) then ((ref01_Same a0.Lo a1.Lo).bind fun t200 => (bif t200 then ((ref01_Same a0.Hi a1.Hi).bind fun t206 => (bif t206 then (bif (a0.Authority == a1.Authority) then (some (a0.Quota == a1.Quota)) else (some false)) else (some false))) else (some false))) else (some false)) else (some false)) else (some false))

noncomputable def law13_same_l0 (a0 : api_Command) (a1 : api_Command) (z387 : (Int)) : Option ((Int) ⊕ (Bool)) :=
  (bif (decide (z387 < ((a0.Parts).length : Int))) then ((geto a0.Parts z387).bind fun x397 => ((geto a1.Parts z387).bind fun x408 => (bif (x397.Shard != x408.Shard) then (inrO (some false)) else ((ref13_SameWrites x397.Writes x408.Writes).bind fun t420 => (bif (!t420) then (inrO (some false)) else (some (Sum.inl (IntKind.i64.wrap (z387 + (1:Int)))))))))) else (inrO (some true)))
noncomputable def law13_same (a0 : api_Command) (a1 : api_Command) : Option (Bool) :=
  (bif (a0.Kind != a1.Kind) then (some false) else (bif (!((a0.ID.Session == a1.ID.Session) && (a0.ID.Seq == a1.ID.Seq))) then (some false) else (bif (a0.Epoch != a1.Epoch) then (some false) else (bif (a0.Index != a1.Index) then (some false) else (bif (a0.E != a1.E) then (some false) else ((ref11_SameHold a0.Hold a1.Hold).bind fun t299 => (bif (!t299) then (some false) else ((ref13_SameWrites a0.Writes a1.Writes).bind fun t305 => (bif (!t305) then (some false) else ((ref11_SameReply a0.R a1.R).bind fun t311 => (bif (!t311) then (some false) else (bif (a0.Shards != a1.Shards) then (some false) else (bif (((a0.Parts).length : Int) != ((a1.Parts).length : Int)) then (some false) else ((ref11_SameRule a0.Rule a1.Rule).bind fun t319 => (bif (!t319) then (some false) else (bif (!(a0.On == a1.On)) then (some false) else (loopO (law13_same_l0 a0 a1) (0:Int))))))))))))))))))

noncomputable def law13_CommandApart (a0 : (List Int)) (a1 : (List Int)) : Option (Bool) :=
  (law13_awake.bind fun t195 => (bif (!t195) then (law13_awake.bind fun t201 => (some t201)) else (bif (decide (((a0).length : Int) > (100:Int))) then (law13_awake.bind fun t207 => (some t207)) else (bif (decide (((a1).length : Int) > (100:Int))) then (law13_awake.bind fun t213 => (some t213)) else ((ref13_OfCommand ({ L := a0, I := (0:Int) } : ref12_Tape)).bind fun t230 => ((ref13_OfCommand ({ L := a1, I := (0:Int) } : ref12_Tape)).bind fun t266 => ((command_Encode t230.1).bind fun t318 => ((command_Encode t266.1).bind fun t341 => ((law13_same t230.1 t266.1).bind fun t380 => (some ((sEq (toStr t318) (toStr t341)) == t380)))))))))))

noncomputable def octet_Read (a0 : (List Int)) : Option (octet_Reader) :=
  (some ({ p := a0, bad := false } : octet_Reader))

noncomputable def octet_Reader_spoil (a0 : octet_Reader) : Option (octet_Reader) :=
  (some ({ p := a0.p, bad := true } : octet_Reader))

noncomputable def octet_Reader_Num_l1 (a1 : Int) (a0 : octet_Reader) (s : (Int × Int)) : Option ((Int × Int) ⊕ (Int)) :=
  match s with | (z172, z173) => (bif (decide (z172 < (if (8:Int) < a1 then (8:Int) else a1))) then ((geto a0.p z172).bind fun x188 => (gd (decide ((0:Int) ≤ (IntKind.i64.wrap ((8:Int) * z172)))) (some (Sum.inl ((IntKind.i64.wrap (z172 + (1:Int))), (bOr .u64 z173 (iShl .u64 (IntKind.u64.wrap x188) (IntKind.i64.wrap ((8:Int) * z172))))))))) else (inrO (some z173)))
noncomputable def octet_Reader_Num_j0 (a0 : octet_Reader) (a1 : Int) (z194 : (Int)) : Option (Int × octet_Reader) :=
  (gd (fits a0.p a1 (((a0.p).length : Nat) : Int)) (some (z194, ({ p := (subs a0.p a1 (((a0.p).length : Nat) : Int)), bad := a0.bad } : octet_Reader))))
noncomputable def octet_Reader_Num (a0 : octet_Reader) (a1 : Int) : Option (Int × octet_Reader) :=
  (bif a0.bad then ((octet_Reader_spoil a0).bind fun t129 => (some ((0:Int), t129))) else (bif (decide (a1 < (0:Int))) then ((octet_Reader_spoil a0).bind fun t135 => (some ((0:Int), t135))) else (bif (decide (((a0.p).length : Int) < a1)) then ((octet_Reader_spoil a0).bind fun t141 => (some ((0:Int), t141))) else (((loopO (octet_Reader_Num_l1 a1 a0) ((0:Int), (0:Int)))).bind (octet_Reader_Num_j0 a0 a1)))))

noncomputable def octet_Reader_Count (a0 : octet_Reader) (a1 : Int) : Option (Int × octet_Reader) :=
  ((octet_Reader_Num a0 (4:Int)).bind fun t129 => (bif (decide (a1 < (0:Int))) then ((octet_Reader_spoil t129.2).bind fun t135 => (some ((0:Int), t135))) else (bif (decide (t129.1 > (IntKind.u64.wrap a1))) then ((octet_Reader_spoil t129.2).bind fun t141 => (some ((0:Int), t141))) else (some ((IntKind.i64.wrap t129.1), t129.2)))))

noncomputable def number_Back (a0 : Int) : Option (Nat) :=
  (bif ((iShr .u64 a0 (63:Int)) == (1:Int)) then (some (Int.toNat (bAndNot .u64 a0 (9223372036854775808:Int)))) else (some (Int.toNat (bXor .u64 ((18446744073709551615):Int) a0))))

noncomputable def octet_Reader_Bytes (a0 : octet_Reader) (a1 : Int) : Option ((List Int) × octet_Reader) :=
  ((octet_Reader_Num a0 (4:Int)).bind fun t570 => (bif t570.2.bad then ((octet_Reader_spoil t570.2).bind fun t580 => (some ([], t580))) else (bif (decide (a1 < (0:Int))) then ((octet_Reader_spoil t570.2).bind fun t587 => (some ([], t587))) else (bif (decide (t570.1 > (IntKind.u64.wrap a1))) then ((octet_Reader_spoil t570.2).bind fun t594 => (some ([], t594))) else (bif (decide (t570.1 > (IntKind.u64.wrap ((t570.2.p).length : Int)))) then ((octet_Reader_spoil t570.2).bind fun t601 => (some ([], t601))) else (gd (fits t570.2.p (0:Int) t570.1) (gd (room ([] : List Int) (subs t570.2.p (0:Int) t570.1)) (gd (fits t570.2.p t570.1 (((t570.2.p).length : Nat) : Int)) (some ((subs t570.2.p (0:Int) t570.1), ({ p := (subs t570.2.p t570.1 (((t570.2.p).length : Nat) : Int)), bad := t570.2.bad } : octet_Reader)))))))))))

noncomputable def locks_Read_l1 (t561 : (Int × octet_Reader)) (s : ((List Nat) × octet_Reader × Int)) : Option (((List Nat) × octet_Reader × Int) ⊕ (octet_Reader × (List Nat))) :=
  match s with | (z637, z640, z641) => (bif (decide (z641 < t561.1)) then ((octet_Reader_Num z640 (8:Int)).bind fun t651 => ((number_Back t651.1).bind fun t656 => (gd (room z637 ([t656])) (some (Sum.inl ((z637 ++ ([t656])), t651.2, (IntKind.i64.wrap (z641 + (1:Int))))))))) else (inrO (some (z640, z637))))
noncomputable def locks_Read_l3 (t681 : (Int × octet_Reader)) (s : ((List (Nat × Nat)) × octet_Reader × Int)) : Option (((List (Nat × Nat)) × octet_Reader × Int) ⊕ (octet_Reader × (List (Nat × Nat)))) :=
  match s with | (z787, z790, z791) => (bif (decide (z791 < t681.1)) then ((octet_Reader_Num z790 (8:Int)).bind fun t801 => ((number_Back t801.1).bind fun t806 => ((octet_Reader_Num t801.2 (8:Int)).bind fun t811 => ((number_Back t811.1).bind fun t816 => (gd (room z787 ([(t806, t816)])) (some (Sum.inl ((z787 ++ ([(t806, t816)])), t811.2, (IntKind.i64.wrap (z791 + (1:Int))))))))))) else (inrO (some (z790, z787))))
noncomputable def locks_Read_l5 (t841 : (Int × octet_Reader)) (s : ((List Nat) × octet_Reader × Int)) : Option (((List Nat) × octet_Reader × Int) ⊕ (octet_Reader × (List Nat))) :=
  match s with | (z917, z920, z921) => (bif (decide (z921 < t841.1)) then ((octet_Reader_Num z920 (8:Int)).bind fun t931 => ((number_Back t931.1).bind fun t936 => (gd (room z917 ([t936])) (some (Sum.inl ((z917 ++ ([t936])), t931.2, (IntKind.i64.wrap (z921 + (1:Int))))))))) else (inrO (some (z920, z917))))
noncomputable def locks_Read_j4 (t531 : (Int × octet_Reader)) (t536 : (Int × octet_Reader)) (t541 : (Int × octet_Reader)) (z675 : (List Nat)) (z835 : (List (Nat × Nat))) (s : (octet_Reader × (List Nat))) : Option (api_Hold × octet_Reader) :=
  match s with | (z952, z955) => ((octet_Reader_Bytes z952 (257:Int)).bind fun t961 => (some (({ ID := ({ Session := t531.1, Seq := t536.1 } : api_ID), Epoch := t541.1, Gets := z675, Scans := z835, Puts := z955, Data := t961.1 } : api_Hold), t961.2)))
noncomputable def locks_Read_j2 (t531 : (Int × octet_Reader)) (t536 : (Int × octet_Reader)) (t541 : (Int × octet_Reader)) (z675 : (List Nat)) (s : (octet_Reader × (List (Nat × Nat)))) : Option (api_Hold × octet_Reader) :=
  match s with | (z832, z835) => ((((octet_Reader_Count z832 (32:Int)).bind fun t841 => (loopO (locks_Read_l5 t841) ([], t841.2, (0:Int))))).bind (locks_Read_j4 t531 t536 t541 z675 z835))
noncomputable def locks_Read_j0 (t531 : (Int × octet_Reader)) (t536 : (Int × octet_Reader)) (t541 : (Int × octet_Reader)) (s : (octet_Reader × (List Nat))) : Option (api_Hold × octet_Reader) :=
  match s with | (z672, z675) => ((((octet_Reader_Count z672 (32:Int)).bind fun t681 => (loopO (locks_Read_l3 t681) ([], t681.2, (0:Int))))).bind (locks_Read_j2 t531 t536 t541 z675))
noncomputable def locks_Read (a0 : octet_Reader) : Option (api_Hold × octet_Reader) :=
  ((octet_Reader_Num a0 (8:Int)).bind fun t531 => ((octet_Reader_Num t531.2 (8:Int)).bind fun t536 => ((octet_Reader_Num t536.2 (8:Int)).bind fun t541 => ((((octet_Reader_Count t541.2 (32:Int)).bind fun t561 => (loopO (locks_Read_l1 t561) ([], t561.2, (0:Int))))).bind (locks_Read_j0 t531 t536 t541)))))

noncomputable def octet_Reader_Flag (a0 : octet_Reader) : Option (Bool × octet_Reader) :=
  ((octet_Reader_Num a0 (1:Int)).bind fun t158 => (bif (decide (t158.1 > (1:Int))) then ((octet_Reader_spoil t158.2).bind fun t164 => (some (false, t164))) else (some ((t158.1 == (1:Int)), t158.2))))

noncomputable def command_readWrites_l0 (t304 : (Int × octet_Reader)) (s : (octet_Reader × (List api_Write) × Int)) : Option ((octet_Reader × (List api_Write) × Int) ⊕ ((List api_Write) × octet_Reader)) :=
  match s with | (z425, z426, z429) => (bif (decide (z429 < t304.1)) then ((octet_Reader_Num z425 (8:Int)).bind fun t440 => ((number_Back t440.1).bind fun t445 => ((octet_Reader_Flag t440.2).bind fun t450 => ((octet_Reader_Bytes t450.2 (256:Int)).bind fun t455 => (gd (room z426 ([({ At := t445, Del := t450.1, Val := t455.1 } : api_Write)])) (some (Sum.inl (t455.2, (z426 ++ ([({ At := t445, Del := t450.1, Val := t455.1 } : api_Write)])), (IntKind.i64.wrap (z429 + (1:Int))))))))))) else (inrO (some (z426, z425))))
noncomputable def command_readWrites (a0 : octet_Reader) : Option ((List api_Write) × octet_Reader) :=
  ((octet_Reader_Count a0 (32:Int)).bind fun t304 => (loopO (command_readWrites_l0 t304) (t304.2, [], (0:Int))))

noncomputable def command_ReadReply_l1 (t1285 : (Int × octet_Reader)) (s : ((List api_Got) × octet_Reader × Int)) : Option (((List api_Got) × octet_Reader × Int) ⊕ (octet_Reader × (List api_Got))) :=
  match s with | (z1382, z1385, z1386) => (bif (decide (z1386 < t1285.1)) then ((octet_Reader_Flag z1385).bind fun t1397 => ((octet_Reader_Bytes t1397.2 (256:Int)).bind fun t1402 => (gd (room z1382 ([({ Has := t1397.1, Val := t1402.1 } : api_Got)])) (some (Sum.inl ((z1382 ++ ([({ Has := t1397.1, Val := t1402.1 } : api_Got)])), t1402.2, (IntKind.i64.wrap (z1386 + (1:Int))))))))) else (inrO (some (z1385, z1382))))
noncomputable def command_ReadReply_l4 (t2002 : (Int × octet_Reader)) (s : (octet_Reader × Int × (List api_Pair))) : Option ((octet_Reader × Int × (List api_Pair)) ⊕ (octet_Reader × (List api_Pair))) :=
  match s with | (z2108, z2109, z2110) => (bif (decide (z2109 < t2002.1)) then ((octet_Reader_Num z2108 (8:Int)).bind fun t2123 => ((number_Back t2123.1).bind fun t2128 => ((octet_Reader_Bytes t2123.2 (256:Int)).bind fun t2133 => (gd (room z2110 ([({ At := t2128, Val := t2133.1 } : api_Pair)])) (some (Sum.inl (t2133.2, (IntKind.i64.wrap (z2109 + (1:Int))), (z2110 ++ ([({ At := t2128, Val := t2133.1 } : api_Pair)]))))))))) else (inrO (some (z2108, z2110))))
noncomputable def command_ReadReply_j3 (z1986 : (List (List api_Pair))) (z1990 : Int) (s : (octet_Reader × (List api_Pair))) : Option (((List (List api_Pair)) × octet_Reader × Int) ⊕ (api_Reply × octet_Reader)) :=
  match s with | (z2154, z2157) => (gd (room z1986 ([z2157])) (some (Sum.inl ((z1986 ++ ([z2157])), z2154, (IntKind.i64.wrap (z1990 + (1:Int)))))))
noncomputable def command_ReadReply_l2 (t1436 : (Int × octet_Reader)) (t1259 : (Int × octet_Reader)) (t1264 : (Int × octet_Reader)) (t1269 : (Int × octet_Reader)) (z1428 : (List api_Got)) (s : ((List (List api_Pair)) × octet_Reader × Int)) : Option (((List (List api_Pair)) × octet_Reader × Int) ⊕ (api_Reply × octet_Reader)) :=
  match s with | (z1986, z1989, z1990) => (bif (decide (z1990 < t1436.1)) then ((((octet_Reader_Count z1989 (64:Int)).bind fun t2002 => (loopO (command_ReadReply_l4 t2002) (t2002.2, (0:Int), [])))).bind (command_ReadReply_j3 z1986 z1990)) else (inrO (some (({ E := (IntKind.i64.wrap t1259.1), Epoch := t1264.1, Index := t1269.1, Gots := z1428, Scans := z1986 } : api_Reply), z1989))))
noncomputable def command_ReadReply_j0 (t1259 : (Int × octet_Reader)) (t1264 : (Int × octet_Reader)) (t1269 : (Int × octet_Reader)) (s : (octet_Reader × (List api_Got))) : Option (api_Reply × octet_Reader) :=
  match s with | (z1425, z1428) => ((octet_Reader_Count z1425 (32:Int)).bind fun t1436 => (loopO (command_ReadReply_l2 t1436 t1259 t1264 t1269 z1428) ([], t1436.2, (0:Int))))
noncomputable def command_ReadReply (a0 : octet_Reader) : Option (api_Reply × octet_Reader) :=
  ((octet_Reader_Num a0 (1:Int)).bind fun t1259 => ((octet_Reader_Num t1259.2 (8:Int)).bind fun t1264 => ((octet_Reader_Num t1264.2 (8:Int)).bind fun t1269 => ((((octet_Reader_Count t1269.2 (32:Int)).bind fun t1285 => (loopO (command_ReadReply_l1 t1285) ([], t1285.2, (0:Int))))).bind (command_ReadReply_j0 t1259 t1264 t1269)))))

noncomputable def command_readRule (a0 : octet_Reader) : Option (api_Rule × octet_Reader) :=
  ((octet_Reader_Num a0 (8:Int)).bind fun t411 => ((octet_Reader_Num t411.2 (1:Int)).bind fun t416 => ((octet_Reader_Num t416.2 (1:Int)).bind fun t421 => ((octet_Reader_Num t421.2 (8:Int)).bind fun t426 => ((number_Back t426.1).bind fun t431 => ((octet_Reader_Num t426.2 (8:Int)).bind fun t436 => ((number_Back t436.1).bind fun t441 => ((octet_Reader_Num t436.2 (8:Int)).bind fun t446 => ((octet_Reader_Num t446.2 (4:Int)).bind fun t451 => (some (({ ID := t411.1, From := (IntKind.i64.wrap t416.1), To := (IntKind.i64.wrap t421.1), Lo := t431, Hi := t441, Authority := t446.1, Quota := (IntKind.i64.wrap t451.1) } : api_Rule), t451.2)))))))))))

noncomputable def octet_Reader_Bad (a0 : octet_Reader) : Option (Bool) :=
  (some a0.bad)

noncomputable def octet_Reader_End (a0 : octet_Reader) : Option (Bool) :=
  ((octet_Reader_Bad a0).bind fun t494 => (bif (!t494) then (some (((a0.p).length : Int) == (0:Int))) else (some false)))

noncomputable def slices_Equal_byte_byte_l0 (a0 : (List Int)) (a1 : (List Int)) (z598 : (Int)) : Option ((Int) ⊕ (Bool)) :=
  (bif (decide (z598 < ((a0).length : Int))) then ((geto a0 z598).bind fun x608 => ((geto a1 z598).bind fun x613 => (bif (x608 != x613) then (inrO (some false)) else (some (Sum.inl (IntKind.i64.wrap (z598 + (1:Int)))))))) else (inrO (some true)))
noncomputable def slices_Equal_byte_byte (a0 : (List Int)) (a1 : (List Int)) : Option (Bool) :=
  (bif (((a0).length : Int) != ((a1).length : Int)) then (some false) else (loopO (slices_Equal_byte_byte_l0 a0 a1) (0:Int)))

noncomputable def command_Decode_l2 (t709 : (Int × octet_Reader)) (s : ((List api_Part) × octet_Reader × Int)) : Option (((List api_Part) × octet_Reader × Int) ⊕ (octet_Reader × (List api_Part))) :=
  match s with | (z806, z809, z810) => (bif (decide (z810 < t709.1)) then ((octet_Reader_Num z809 (1:Int)).bind fun t821 => ((command_readWrites t821.2).bind fun t826 => (gd (room z806 ([({ Shard := (IntKind.i64.wrap t821.1), Writes := t826.1 } : api_Part)])) (some (Sum.inl ((z806 ++ ([({ Shard := (IntKind.i64.wrap t821.1), Writes := t826.1 } : api_Part)])), t826.2, (IntKind.i64.wrap (z810 + (1:Int))))))))) else (inrO (some (z809, z806))))
noncomputable def command_Decode_j1 (z689 : Int) (z690 : Int) (t695 : (Int × octet_Reader)) (t700 : (Int × octet_Reader)) (s : (octet_Reader × (List api_Part))) : Option ((octet_Reader × Int × Int × Int × Int × Int × Int × Int × Int × (List Nat) × (List (Nat × Nat)) × (List Nat) × (List Int) × (List api_Write) × Int × Int × Int × (List api_Got) × (List (List api_Pair)) × Int × (List api_Part) × Int × Int × Int × Nat × Nat × Int × Int × Bool) ⊕ (api_Command × Int)) :=
  match s with | (z849, z852) => ((command_ReadReply z849).bind fun t860 => (some (Sum.inl (t860.2, z689, z690, t695.1, (0:Int), (0:Int), (0:Int), (0:Int), (0:Int), [], [], [], [], [], t860.1.E, t860.1.Epoch, t860.1.Index, t860.1.Gots, t860.1.Scans, t700.1, z852, (0:Int), (0:Int), (0:Int), (0:Nat), (0:Nat), (0:Int), (0:Int), false))))
noncomputable def command_Decode_j0 (t573 : (Int × octet_Reader)) (a0 : (List Int)) (s : (octet_Reader × Int × Int × Int × Int × Int × Int × Int × Int × (List Nat) × (List (Nat × Nat)) × (List Nat) × (List Int) × (List api_Write) × Int × Int × Int × (List api_Got) × (List (List api_Pair)) × Int × (List api_Part) × Int × Int × Int × Nat × Nat × Int × Int × Bool)) : Option (api_Command × Int) :=
  match s with | (z970, z971, z972, z973, z974, z975, z976, z977, z978, z981, z984, z987, z990, z993, z994, z995, z996, z999, z1002, z1003, z1006, z1007, z1008, z1009, z1010, z1011, z1012, z1013, z1014) => ((octet_Reader_End z970).bind fun t1022 => (bif (!t1022) then (some (({ Kind := (0:Int), ID := ({ Session := (0:Int), Seq := (0:Int) } : api_ID), Epoch := (0:Int), Index := (0:Int), E := (0:Int), Hold := ({ ID := ({ Session := (0:Int), Seq := (0:Int) } : api_ID), Epoch := (0:Int), Gets := [], Scans := [], Puts := [], Data := [] } : api_Hold), Writes := [], R := ({ E := (0:Int), Epoch := (0:Int), Index := (0:Int), Gots := [], Scans := [] } : api_Reply), Shards := (0:Int), Parts := [], Rule := ({ ID := (0:Int), From := (0:Int), To := (0:Int), Lo := (0:Nat), Hi := (0:Nat), Authority := (0:Int), Quota := (0:Int) } : api_Rule), On := false } : api_Command), (5:Int))) else ((command_Encode ({ Kind := (IntKind.u8.wrap t573.1), ID := ({ Session := z971, Seq := z972 } : api_ID), Epoch := z973, Index := z974, E := z975, Hold := ({ ID := ({ Session := z976, Seq := z977 } : api_ID), Epoch := z978, Gets := z981, Scans := z984, Puts := z987, Data := z990 } : api_Hold), Writes := z993, R := ({ E := z994, Epoch := z995, Index := z996, Gots := z999, Scans := z1002 } : api_Reply), Shards := z1003, Parts := z1006, Rule := ({ ID := z1007, From := z1008, To := z1009, Lo := z1010, Hi := z1011, Authority := z1012, Quota := z1013 } : api_Rule), On := z1014 } : api_Command)).bind fun t1054 => ((slices_Equal_byte_byte t1054 a0).bind fun t1063 => (bif (!t1063) then (some (({ Kind := (0:Int), ID := ({ Session := (0:Int), Seq := (0:Int) } : api_ID), Epoch := (0:Int), Index := (0:Int), E := (0:Int), Hold := ({ ID := ({ Session := (0:Int), Seq := (0:Int) } : api_ID), Epoch := (0:Int), Gets := [], Scans := [], Puts := [], Data := [] } : api_Hold), Writes := [], R := ({ E := (0:Int), Epoch := (0:Int), Index := (0:Int), Gots := [], Scans := [] } : api_Reply), Shards := (0:Int), Parts := [], Rule := ({ ID := (0:Int), From := (0:Int), To := (0:Int), Lo := (0:Nat), Hi := (0:Nat), Authority := (0:Int), Quota := (0:Int) } : api_Rule), On := false } : api_Command), (5:Int))) else (some (({ Kind := (IntKind.u8.wrap t573.1), ID := ({ Session := z971, Seq := z972 } : api_ID), Epoch := z973, Index := z974, E := z975, Hold := ({ ID := ({ Session := z976, Seq := z977 } : api_ID), Epoch := z978, Gets := z981, Scans := z984, Puts := z987, Data := z990 } : api_Hold), Writes := z993, R := ({ E := z994, Epoch := z995, Index := z996, Gots := z999, Scans := z1002 } : api_Reply), Shards := z1003, Parts := z1006, Rule := ({ ID := z1007, From := z1008, To := z1009, Lo := z1010, Hi := z1011, Authority := z1012, Quota := z1013 } : api_Rule), On := z1014 } : api_Command), (0:Int))))))))
noncomputable def command_Decode (a0 : (List Int)) : Option (api_Command × Int) :=
  ((octet_Read a0).bind fun t555 => ((octet_Reader_Num t555 (1:Int)).bind fun t573 => (joinO (bif ((IntKind.u8.wrap t573.1) == (1:Int)) then ((octet_Reader_Num t573.2 (8:Int)).bind fun t602 => (some (Sum.inl (t602.2, (0:Int), (0:Int), t602.1, (0:Int), (0:Int), (0:Int), (0:Int), (0:Int), [], [], [], [], [], (0:Int), (0:Int), (0:Int), [], [], (0:Int), [], (0:Int), (0:Int), (0:Int), (0:Nat), (0:Nat), (0:Int), (0:Int), false)))) else (bif ((IntKind.u8.wrap t573.1) == (2:Int)) then ((locks_Read t573.2).bind fun t610 => (some (Sum.inl (t610.2, (0:Int), (0:Int), (0:Int), (0:Int), (0:Int), t610.1.ID.Session, t610.1.ID.Seq, t610.1.Epoch, t610.1.Gets, t610.1.Scans, t610.1.Puts, t610.1.Data, [], (0:Int), (0:Int), (0:Int), [], [], (0:Int), [], (0:Int), (0:Int), (0:Int), (0:Nat), (0:Nat), (0:Int), (0:Int), false)))) else (bif ((IntKind.u8.wrap t573.1) == (3:Int)) then (((octet_Reader_Num t573.2 (8:Int)).bind fun t626 => ((octet_Reader_Num t626.2 (8:Int)).bind fun t631 => (some (t631.2, t626.1, t631.1)))).bind fun (z638, z639, z640) => ((octet_Reader_Num z638 (1:Int)).bind fun t645 => ((octet_Reader_Num t645.2 (8:Int)).bind fun t650 => ((octet_Reader_Num t650.2 (8:Int)).bind fun t655 => ((command_readWrites t655.2).bind fun t666 => (some (Sum.inl (t666.2, z639, z640, t650.1, t655.1, (IntKind.i64.wrap t645.1), (0:Int), (0:Int), (0:Int), [], [], [], [], t666.1, (0:Int), (0:Int), (0:Int), [], [], (0:Int), [], (0:Int), (0:Int), (0:Int), (0:Nat), (0:Nat), (0:Int), (0:Int), false)))))))) else (bif ((IntKind.u8.wrap t573.1) == (4:Int)) then (((octet_Reader_Num t573.2 (8:Int)).bind fun t676 => ((octet_Reader_Num t676.2 (8:Int)).bind fun t681 => (some (t681.2, t676.1, t681.1)))).bind fun (z688, z689, z690) => ((octet_Reader_Num z688 (8:Int)).bind fun t695 => ((octet_Reader_Num t695.2 (2:Int)).bind fun t700 => ((((octet_Reader_Count t700.2 (8:Int)).bind fun t709 => (loopO (command_Decode_l2 t709) ([], t709.2, (0:Int))))).bind (command_Decode_j1 z689 z690 t695 t700))))) else (bif ((IntKind.u8.wrap t573.1) == (5:Int)) then (((octet_Reader_Num t573.2 (8:Int)).bind fun t872 => ((octet_Reader_Num t872.2 (8:Int)).bind fun t877 => (some (t877.2, t872.1, t877.1)))).bind fun (z884, z885, z886) => (some (Sum.inl (z884, z885, z886, (0:Int), (0:Int), (0:Int), (0:Int), (0:Int), (0:Int), [], [], [], [], [], (0:Int), (0:Int), (0:Int), [], [], (0:Int), [], (0:Int), (0:Int), (0:Int), (0:Nat), (0:Nat), (0:Int), (0:Int), false)))) else (bif ((IntKind.u8.wrap t573.1) == (6:Int)) then ((command_readRule t573.2).bind fun t892 => ((octet_Reader_Flag t892.2).bind fun t899 => (some (Sum.inl (t899.2, (0:Int), (0:Int), (0:Int), (0:Int), (0:Int), (0:Int), (0:Int), (0:Int), [], [], [], [], [], (0:Int), (0:Int), (0:Int), [], [], (0:Int), [], t892.1.ID, t892.1.From, t892.1.To, t892.1.Lo, t892.1.Hi, t892.1.Authority, t892.1.Quota, t899.1))))) else (bif ((IntKind.u8.wrap t573.1) == (7:Int)) then (((octet_Reader_Num t573.2 (8:Int)).bind fun t907 => ((octet_Reader_Num t907.2 (8:Int)).bind fun t912 => (some (t912.2, t907.1, t912.1)))).bind fun (z919, z920, z921) => ((octet_Reader_Num z919 (8:Int)).bind fun t926 => ((command_readRule t926.2).bind fun t933 => ((command_readWrites t933.2).bind fun t940 => ((command_ReadReply t940.2).bind fun t949 => (some (Sum.inl (t949.2, z920, z921, t926.1, (0:Int), (0:Int), (0:Int), (0:Int), (0:Int), [], [], [], [], t940.1, t949.1.E, t949.1.Epoch, t949.1.Index, t949.1.Gots, t949.1.Scans, (0:Int), [], t933.1.ID, t933.1.From, t933.1.To, t933.1.Lo, t933.1.Hi, t933.1.Authority, t933.1.Quota, false)))))))) else (inrO (some (({ Kind := (0:Int), ID := ({ Session := (0:Int), Seq := (0:Int) } : api_ID), Epoch := (0:Int), Index := (0:Int), E := (0:Int), Hold := ({ ID := ({ Session := (0:Int), Seq := (0:Int) } : api_ID), Epoch := (0:Int), Gets := [], Scans := [], Puts := [], Data := [] } : api_Hold), Writes := [], R := ({ E := (0:Int), Epoch := (0:Int), Index := (0:Int), Gots := [], Scans := [] } : api_Reply), Shards := (0:Int), Parts := [], Rule := ({ ID := (0:Int), From := (0:Int), To := (0:Int), Lo := (0:Nat), Hi := (0:Nat), Authority := (0:Int), Quota := (0:Int) } : api_Rule), On := false } : api_Command), (5:Int))))))))))) (command_Decode_j0 t573 a0))))

noncomputable def ref02_Num_l0 (a2 : Int) (s : (Int × (List Int) × Int)) : Option ((Int × (List Int) × Int) ⊕ ((List Int))) :=
  match s with | (z225, z226, z229) => (bif (decide (z229 < a2)) then (gd (room z226 ([(IntKind.u8.wrap (bAnd .u64 z225 (255:Int)))])) (some (Sum.inl ((iShr .u64 z225 (8:Int)), (z226 ++ ([(IntKind.u8.wrap (bAnd .u64 z225 (255:Int)))])), (IntKind.i64.wrap (z229 + (1:Int))))))) else (inrO (some z226)))
noncomputable def ref02_Num (a0 : (List Int)) (a1 : Int) (a2 : Int) : Option ((List Int)) :=
  (gd (room ([] : List Int) a0) (loopO (ref02_Num_l0 a2) (a1, a0, (0:Int))))

noncomputable def ref12_ID (a0 : (List Int)) (a1 : api_ID) : Option ((List Int)) :=
  ((ref02_Num a0 a1.Session (8:Int)).bind fun t199 => ((ref02_Num t199 a1.Seq (8:Int)).bind fun t208 => (some t208)))

noncomputable def ref01_Rank (a0 : Nat) : Option (Int) :=
  (bif (fNe a0 a0) then (some (18446744073709551615:Int)) else (bif (decide ((Int.ofNat a0) ≥ (9223372036854775808:Int))) then (some (IntKind.u64.wrap ((18446744073709551615:Int) - (Int.ofNat a0)))) else (some (IntKind.u64.wrap ((Int.ofNat a0) + (9223372036854775808:Int))))))

noncomputable def ref02_Bytes (a0 : (List Int)) (a1 : (List Int)) : Option ((List Int)) :=
  ((ref02_Num a0 (IntKind.u64.wrap ((a1).length : Int)) (4:Int)).bind fun t523 => (gd (room t523 a1) (some (t523 ++ a1))))

noncomputable def ref12_Hold_l1 (a1 : api_Hold) (s : ((List Int) × Int)) : Option (((List Int) × Int) ⊕ ((List Int))) :=
  match s with | (z595, z598) => (bif (decide (z598 < ((a1.Gets).length : Int))) then ((geto a1.Gets z598).bind fun x608 => ((ref01_Rank x608).bind fun t613 => ((ref02_Num z595 t613 (8:Int)).bind fun t620 => (some (Sum.inl (t620, (IntKind.i64.wrap (z598 + (1:Int))))))))) else (inrO (some z595)))
noncomputable def ref12_Hold_l3 (a1 : api_Hold) (s : ((List Int) × Int)) : Option (((List Int) × Int) ⊕ ((List Int))) :=
  match s with | (z716, z719) => (bif (decide (z719 < ((a1.Scans).length : Int))) then ((geto a1.Scans z719).bind fun x729 => ((ref01_Rank x729.1).bind fun t734 => ((ref02_Num z716 t734 (8:Int)).bind fun t741 => ((ref01_Rank x729.2).bind fun t748 => ((ref02_Num t741 t748 (8:Int)).bind fun t755 => (some (Sum.inl (t755, (IntKind.i64.wrap (z719 + (1:Int))))))))))) else (inrO (some z716)))
noncomputable def ref12_Hold_l5 (a1 : api_Hold) (s : ((List Int) × Int)) : Option (((List Int) × Int) ⊕ ((List Int))) :=
  match s with | (z823, z826) => (bif (decide (z826 < ((a1.Puts).length : Int))) then ((geto a1.Puts z826).bind fun x836 => ((ref01_Rank x836).bind fun t841 => ((ref02_Num z823 t841 (8:Int)).bind fun t848 => (some (Sum.inl (t848, (IntKind.i64.wrap (z826 + (1:Int))))))))) else (inrO (some z823)))
noncomputable def ref12_Hold_j4 (a1 : api_Hold) (z857 : ((List Int))) : Option ((List Int)) :=
  ((ref02_Bytes z857 a1.Data).bind fun t865 => (some t865))
noncomputable def ref12_Hold_j2 (a1 : api_Hold) (z764 : ((List Int))) : Option ((List Int)) :=
  ((ref02_Num z764 (IntKind.u64.wrap ((a1.Puts).length : Int)) (4:Int)).bind fun t772 => (((loopO (ref12_Hold_l5 a1) (t772, (0:Int)))).bind (ref12_Hold_j4 a1)))
noncomputable def ref12_Hold_j0 (a1 : api_Hold) (z629 : ((List Int))) : Option ((List Int)) :=
  ((ref02_Num z629 (IntKind.u64.wrap ((a1.Scans).length : Int)) (4:Int)).bind fun t637 => (((loopO (ref12_Hold_l3 a1) (t637, (0:Int)))).bind (ref12_Hold_j2 a1)))
noncomputable def ref12_Hold (a0 : (List Int)) (a1 : api_Hold) : Option ((List Int)) :=
  ((ref12_ID a0 a1.ID).bind fun t526 => ((ref02_Num t526 a1.Epoch (8:Int)).bind fun t535 => ((ref02_Num t535 (IntKind.u64.wrap ((a1.Gets).length : Int)) (4:Int)).bind fun t544 => (((loopO (ref12_Hold_l1 a1) (t544, (0:Int)))).bind (ref12_Hold_j0 a1)))))

noncomputable def ref02_Flag (a0 : (List Int)) (a1 : Bool) : Option ((List Int)) :=
  (bif a1 then ((ref02_Num a0 (1:Int) (1:Int)).bind fun t217 => (some t217)) else ((ref02_Num a0 (0:Int) (1:Int)).bind fun t224 => (some t224)))

noncomputable def ref13_Writes_l0 (a1 : (List api_Write)) (s : ((List Int) × Int)) : Option (((List Int) × Int) ⊕ ((List Int))) :=
  match s with | (z446, z449) => (bif (decide (z449 < ((a1).length : Int))) then ((geto a1 z449).bind fun x459 => ((ref01_Rank x459.At).bind fun t470 => ((ref02_Num z446 t470 (8:Int)).bind fun t477 => ((ref02_Flag t477 x459.Del).bind fun t486 => ((ref02_Bytes t486 x459.Val).bind fun t495 => (some (Sum.inl (t495, (IntKind.i64.wrap (z449 + (1:Int))))))))))) else (inrO (some z446)))
noncomputable def ref13_Writes (a0 : (List Int)) (a1 : (List api_Write)) : Option ((List Int)) :=
  ((ref02_Num a0 (IntKind.u64.wrap ((a1).length : Int)) (4:Int)).bind fun t347 => (loopO (ref13_Writes_l0 a1) (t347, (0:Int))))

noncomputable def ref13_Reply_l1 (a1 : api_Reply) (s : ((List Int) × Int)) : Option (((List Int) × Int) ⊕ ((List Int))) :=
  match s with | (z1133, z1136) => (bif (decide (z1136 < ((a1.Gots).length : Int))) then ((geto a1.Gots z1136).bind fun x1146 => ((ref02_Flag z1133 x1146.Has).bind fun t1159 => ((ref02_Bytes t1159 x1146.Val).bind fun t1168 => (some (Sum.inl (t1168, (IntKind.i64.wrap (z1136 + (1:Int))))))))) else (inrO (some z1133)))
noncomputable def ref13_Reply_l3 (x1529 : (List api_Pair)) (z1519 : Int) (s : ((List Int) × Int)) : Option (((List Int) × Int) ⊕ (((List Int) × Int) ⊕ ((List Int)))) :=
  match s with | (z1635, z1638) => (bif (decide (z1638 < ((x1529).length : Int))) then ((geto x1529 z1638).bind fun x1654 => ((ref01_Rank x1654.At).bind fun t1665 => ((ref02_Num z1635 t1665 (8:Int)).bind fun t1672 => ((ref02_Bytes t1672 x1654.Val).bind fun t1681 => (some (Sum.inl (t1681, (IntKind.i64.wrap (z1638 + (1:Int)))))))))) else (inrO (some (Sum.inl (z1635, (IntKind.i64.wrap (z1519 + (1:Int))))))))
noncomputable def ref13_Reply_l2 (a1 : api_Reply) (s : ((List Int) × Int)) : Option (((List Int) × Int) ⊕ ((List Int))) :=
  match s with | (z1516, z1519) => (bif (decide (z1519 < ((a1.Scans).length : Int))) then ((geto a1.Scans z1519).bind fun x1529 => ((ref02_Num z1516 (IntKind.u64.wrap ((x1529).length : Int)) (4:Int)).bind fun t1542 => (loopO (ref13_Reply_l3 x1529 z1519) (t1542, (0:Int))))) else (inrO (some z1516)))
noncomputable def ref13_Reply_j0 (a1 : api_Reply) (z1177 : ((List Int))) : Option ((List Int)) :=
  ((ref02_Num z1177 (IntKind.u64.wrap ((a1.Scans).length : Int)) (4:Int)).bind fun t1185 => (loopO (ref13_Reply_l2 a1) (t1185, (0:Int))))
noncomputable def ref13_Reply (a0 : (List Int)) (a1 : api_Reply) : Option ((List Int)) :=
  ((ref02_Num a0 (IntKind.u64.wrap a1.E) (1:Int)).bind fun t1035 => ((ref02_Num t1035 a1.Epoch (8:Int)).bind fun t1044 => ((ref02_Num t1044 a1.Index (8:Int)).bind fun t1053 => ((ref02_Num t1053 (IntKind.u64.wrap ((a1.Gots).length : Int)) (4:Int)).bind fun t1062 => (((loopO (ref13_Reply_l1 a1) (t1062, (0:Int)))).bind (ref13_Reply_j0 a1))))))

noncomputable def ref13_Rule (a0 : (List Int)) (a1 : api_Rule) : Option ((List Int)) :=
  ((ref02_Num a0 a1.ID (8:Int)).bind fun t469 => ((ref02_Num t469 (IntKind.u64.wrap a1.From) (1:Int)).bind fun t478 => ((ref02_Num t478 (IntKind.u64.wrap a1.To) (1:Int)).bind fun t487 => ((ref01_Rank a1.Lo).bind fun t494 => ((ref02_Num t487 t494 (8:Int)).bind fun t501 => ((ref01_Rank a1.Hi).bind fun t508 => ((ref02_Num t501 t508 (8:Int)).bind fun t515 => ((ref02_Num t515 a1.Authority (8:Int)).bind fun t524 => ((ref02_Num t524 (IntKind.u64.wrap a1.Quota) (4:Int)).bind fun t533 => (some t533))))))))))

noncomputable def ref13_Command_l1 (a0 : api_Command) (s : ((List Int) × Int)) : Option (((List Int) × Int) ⊕ ((List Int))) :=
  match s with | (z638, z641) => (bif (decide (z641 < ((a0.Parts).length : Int))) then ((geto a0.Parts z641).bind fun x651 => ((ref02_Num z638 (IntKind.u64.wrap x651.Shard) (1:Int)).bind fun t664 => ((ref13_Writes t664 x651.Writes).bind fun t673 => (some (Sum.inl (t673, (IntKind.i64.wrap (z641 + (1:Int))))))))) else (inrO (some z638)))
noncomputable def ref13_Command_j0 (a0 : api_Command) (z682 : ((List Int))) : Option ((List Int)) :=
  ((ref13_Reply z682 a0.R).bind fun t690 => (some t690))
noncomputable def ref13_Command (a0 : api_Command) : Option ((List Int)) :=
  ((ref02_Num ([]) (IntKind.u64.wrap a0.Kind) (1:Int)).bind fun t464 => (bif (a0.Kind == (1:Int)) then ((ref02_Num t464 a0.Epoch (8:Int)).bind fun t474 => (some t474)) else (bif (a0.Kind == (2:Int)) then ((ref12_Hold t464 a0.Hold).bind fun t484 => (some t484)) else (bif (a0.Kind == (3:Int)) then ((ref12_ID t464 a0.ID).bind fun t494 => ((ref02_Num t494 (IntKind.u64.wrap a0.E) (1:Int)).bind fun t503 => ((ref02_Num t503 a0.Epoch (8:Int)).bind fun t512 => ((ref02_Num t512 a0.Index (8:Int)).bind fun t521 => ((ref13_Writes t521 a0.Writes).bind fun t530 => (some t530)))))) else (bif (a0.Kind == (4:Int)) then ((ref12_ID t464 a0.ID).bind fun t540 => ((ref02_Num t540 a0.Epoch (8:Int)).bind fun t549 => ((ref02_Num t549 a0.Shards (2:Int)).bind fun t558 => ((ref02_Num t558 (IntKind.u64.wrap ((a0.Parts).length : Int)) (4:Int)).bind fun t567 => (((loopO (ref13_Command_l1 a0) (t567, (0:Int)))).bind (ref13_Command_j0 a0)))))) else (bif (a0.Kind == (5:Int)) then ((ref12_ID t464 a0.ID).bind fun t700 => (some t700)) else (bif (a0.Kind == (6:Int)) then ((ref13_Rule t464 a0.Rule).bind fun t710 => ((ref02_Flag t710 a0.On).bind fun t719 => (some t719))) else (bif (a0.Kind == (7:Int)) then ((ref12_ID t464 a0.ID).bind fun t729 => ((ref02_Num t729 a0.Epoch (8:Int)).bind fun t738 => ((ref13_Rule t738 a0.Rule).bind fun t747 => ((ref13_Writes t747 a0.Writes).bind fun t756 => ((ref13_Reply t756 a0.R).bind fun t765 => (some t765)))))) else (some t464)))))))))

noncomputable def law13_CommandBytes_l0 (s : (ref12_Tape × Int)) : Option ((ref12_Tape × Int) ⊕ (Bool)) :=
  match s with | (z874, z875) => (bif (decide (z875 < (6:Int))) then ((ref13_OfCommand z874).bind fun t886 => ((command_Encode t886.1).bind fun t938 => ((command_Decode t938).bind fun t948 => ((ref13_Command t886.1).bind fun t1000 => (bif (!(sEq (toStr t938) (toStr t1000))) then (inrO (some false)) else (bif (t948.2 != (0:Int)) then (inrO (some false)) else ((law13_same t886.1 t948.1).bind fun t1041 => (bif (!t1041) then (inrO (some false)) else (some (Sum.inl (t886.2, (IntKind.i64.wrap (z875 + (1:Int)))))))))))))) else (inrO (some true)))
noncomputable def law13_CommandBytes (a0 : (List Int)) : Option (Bool) :=
  (law13_awake.bind fun t525 => (bif (!t525) then (law13_awake.bind fun t531 => (some t531)) else (bif (decide (((a0).length : Int) > (300:Int))) then (law13_awake.bind fun t537 => (some t537)) else (loopO (law13_CommandBytes_l0) (({ L := a0, I := (0:Int) } : ref12_Tape), (0:Int))))))
end Go.Proofs.Ytijcfglomdfglaa
