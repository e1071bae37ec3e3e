/- The models of the Go functions: plain Lean, no memory. -/
import Derived.Test.YtijcfglomdfglaaGvSlice
set_option linter.unusedVariables false
set_option linter.unusedSimpArgs false
set_option maxRecDepth 100000
set_option maxHeartbeats 4000000
namespace Go.Proofs.Ytijcfglomdfglaa
open Go Go.V
structure api_ID where
  Session : Int
  Seq : Int

structure api_Hold where
  ID : api_ID
  Epoch : Int
  Gets : (List Nat)
  Scans : (List (Nat × Nat))
  Puts : (List Nat)
  Data : (List Int)

structure api_Write where
  At : Nat
  Del : Bool
  Val : (List Int)

structure api_Got where
  Has : Bool
  Val : (List Int)

structure api_Pair where
  At : Nat
  Val : (List Int)

structure api_Reply where
  E : Int
  Epoch : Int
  Index : Int
  Gots : (List api_Got)
  Scans : (List (List api_Pair))

structure api_Part where
  Shard : Int
  Writes : (List api_Write)

structure api_Rule where
  ID : Int
  From : Int
  To : Int
  Lo : Nat
  Hi : Nat
  Authority : Int
  Quota : Int

structure api_Command where
  Kind : Int
  ID : api_ID
  Epoch : Int
  Index : Int
  E : Int
  Hold : api_Hold
  Writes : (List api_Write)
  R : api_Reply
  Shards : Int
  Parts : (List api_Part)
  Rule : api_Rule
  On : Bool

structure octet_Writer where
  p : (List Int)

structure octet_Reader where
  p : (List Int)
  bad : Bool

structure ref12_Tape where
  L : (List Int)
  I : Int

noncomputable def octet_Writer_lay (a0 : octet_Writer) (a1 : (List Int)) : Option (octet_Writer) :=
  (gd (room a0.p a1) (some ({ p := (a0.p ++ a1) } : octet_Writer)))

noncomputable def octet_Writer_Num_l0 (a2 : Int) (a1 : Int) (s : (octet_Writer × Int)) : Option ((octet_Writer × Int) ⊕ (octet_Writer)) :=
  match s with | (z125, z126) => (bif (decide (z126 < a2)) then (gd (decide ((0:Int) ≤ (IntKind.i64.wrap ((8:Int) * z126)))) ((octet_Writer_lay z125 ([(IntKind.u8.wrap (iShr .u64 a1 (IntKind.i64.wrap ((8:Int) * z126))))])).bind fun t144 => (some (Sum.inl (t144, (IntKind.i64.wrap (z126 + (1:Int)))))))) else (inrO (some z125)))
noncomputable def octet_Writer_Num (a0 : octet_Writer) (a1 : Int) (a2 : Int) : Option (octet_Writer) :=
  (loopO (octet_Writer_Num_l0 a2 a1) (a0, (0:Int)))

noncomputable def octet_Writer_Done (a0 : octet_Writer) : Option ((List Int)) :=
  (some a0.p)

noncomputable def math_IsNaN (a0 : Nat) : Option (Bool) :=
  (some (fNe a0 a0))

noncomputable def number_Rank (a0 : Nat) : Option (Int) :=
  ((math_IsNaN a0).bind fun t101 => (bif t101 then (some (18446744073709551615:Int)) else (bif ((iShr .u64 (Int.ofNat a0) (63:Int)) == (1:Int)) then (some (bXor .u64 ((18446744073709551615):Int) (Int.ofNat a0))) else (some (bOr .u64 (Int.ofNat a0) (9223372036854775808:Int))))))

noncomputable def octet_Writer_Bytes (a0 : octet_Writer) (a1 : (List Int)) : Option (octet_Writer) :=
  ((octet_Writer_Num a0 (IntKind.u64.wrap ((a1).length : Int)) (4:Int)).bind fun t361 => ((octet_Writer_lay t361 a1).bind fun t366 => (some t366)))

noncomputable def locks_Lay_l1 (a1 : api_Hold) (s : (octet_Writer × Int)) : Option ((octet_Writer × Int) ⊕ (octet_Writer)) :=
  match s with | (z416, z417) => (bif (decide (z417 < ((a1.Gets).length : Int))) then ((geto a1.Gets z417).bind fun x427 => ((number_Rank x427).bind fun t432 => ((octet_Writer_Num z416 t432 (8:Int)).bind fun t437 => (some (Sum.inl (t437, (IntKind.i64.wrap (z417 + (1:Int))))))))) else (inrO (some z416)))
noncomputable def locks_Lay_l3 (a1 : api_Hold) (s : (octet_Writer × Int)) : Option ((octet_Writer × Int) ⊕ (octet_Writer)) :=
  match s with | (z521, z522) => (bif (decide (z522 < ((a1.Scans).length : Int))) then ((geto a1.Scans z522).bind fun x532 => ((number_Rank x532.1).bind fun t544 => ((octet_Writer_Num z521 t544 (8:Int)).bind fun t549 => ((number_Rank x532.2).bind fun t554 => ((octet_Writer_Num t549 t554 (8:Int)).bind fun t559 => (some (Sum.inl (t559, (IntKind.i64.wrap (z522 + (1:Int))))))))))) else (inrO (some z521)))
noncomputable def locks_Lay_l5 (a1 : api_Hold) (s : (octet_Writer × Int)) : Option ((octet_Writer × Int) ⊕ (octet_Writer)) :=
  match s with | (z609, z610) => (bif (decide (z610 < ((a1.Puts).length : Int))) then ((geto a1.Puts z610).bind fun x620 => ((number_Rank x620).bind fun t625 => ((octet_Writer_Num z609 t625 (8:Int)).bind fun t630 => (some (Sum.inl (t630, (IntKind.i64.wrap (z610 + (1:Int))))))))) else (inrO (some z609)))
noncomputable def locks_Lay_j4 (a1 : api_Hold) (z635 : (octet_Writer)) : Option (octet_Writer) :=
  ((octet_Writer_Bytes z635 a1.Data).bind fun t641 => (some t641))
noncomputable def locks_Lay_j2 (a1 : api_Hold) (z564 : (octet_Writer)) : Option (octet_Writer) :=
  ((octet_Writer_Num z564 (IntKind.u64.wrap ((a1.Puts).length : Int)) (4:Int)).bind fun t570 => (((loopO (locks_Lay_l5 a1) (t570, (0:Int)))).bind (locks_Lay_j4 a1)))
noncomputable def locks_Lay_j0 (a1 : api_Hold) (z442 : (octet_Writer)) : Option (octet_Writer) :=
  ((octet_Writer_Num z442 (IntKind.u64.wrap ((a1.Scans).length : Int)) (4:Int)).bind fun t448 => (((loopO (locks_Lay_l3 a1) (t448, (0:Int)))).bind (locks_Lay_j2 a1)))
noncomputable def locks_Lay (a0 : octet_Writer) (a1 : api_Hold) : Option (octet_Writer) :=
  ((octet_Writer_Num a0 a1.ID.Session (8:Int)).bind fun t362 => ((octet_Writer_Num t362 a1.ID.Seq (8:Int)).bind fun t367 => ((octet_Writer_Num t367 a1.Epoch (8:Int)).bind fun t372 => ((octet_Writer_Num t372 (IntKind.u64.wrap ((a1.Gets).length : Int)) (4:Int)).bind fun t377 => (((loopO (locks_Lay_l1 a1) (t377, (0:Int)))).bind (locks_Lay_j0 a1))))))

noncomputable def octet_Writer_Flag (a0 : octet_Writer) (a1 : Bool) : Option (octet_Writer) :=
  (bif a1 then ((octet_Writer_Num a0 (1:Int) (1:Int)).bind fun t142 => (some t142)) else ((octet_Writer_Num a0 (0:Int) (1:Int)).bind fun t147 => (some t147)))

noncomputable def command_writes_l0 (a1 : (List api_Write)) (s : (octet_Writer × Int)) : Option ((octet_Writer × Int) ⊕ (octet_Writer)) :=
  match s with | (z329, z330) => (bif (decide (z330 < ((a1).length : Int))) then ((geto a1 z330).bind fun x340 => ((number_Rank x340.At).bind fun t359 => ((octet_Writer_Num z329 t359 (8:Int)).bind fun t364 => ((octet_Writer_Flag t364 x340.Del).bind fun t369 => ((octet_Writer_Bytes t369 x340.Val).bind fun t374 => (some (Sum.inl (t374, (IntKind.i64.wrap (z330 + (1:Int))))))))))) else (inrO (some z329)))
noncomputable def command_writes (a0 : octet_Writer) (a1 : (List api_Write)) : Option (octet_Writer) :=
  ((octet_Writer_Num a0 (IntKind.u64.wrap ((a1).length : Int)) (4:Int)).bind fun t242 => (loopO (command_writes_l0 a1) (t242, (0:Int))))

noncomputable def command_LayReply_l1 (a1 : api_Reply) (s : (octet_Writer × Int)) : Option ((octet_Writer × Int) ⊕ (octet_Writer)) :=
  match s with | (z897, z898) => (bif (decide (z898 < ((a1.Gots).length : Int))) then ((geto a1.Gots z898).bind fun x908 => ((octet_Writer_Flag z897 x908.Has).bind fun t927 => ((octet_Writer_Bytes t927 x908.Val).bind fun t932 => (some (Sum.inl (t932, (IntKind.i64.wrap (z898 + (1:Int))))))))) else (inrO (some z897)))
noncomputable def command_LayReply_l3 (x1229 : (List api_Pair)) (z1219 : Int) (s : (octet_Writer × Int)) : Option ((octet_Writer × Int) ⊕ ((octet_Writer × Int) ⊕ (octet_Writer))) :=
  match s with | (z1317, z1318) => (bif (decide (z1318 < ((x1229).length : Int))) then ((geto x1229 z1318).bind fun x1328 => ((number_Rank x1328.At).bind fun t1347 => ((octet_Writer_Num z1317 t1347 (8:Int)).bind fun t1352 => ((octet_Writer_Bytes t1352 x1328.Val).bind fun t1357 => (some (Sum.inl (t1357, (IntKind.i64.wrap (z1318 + (1:Int)))))))))) else (inrO (some (Sum.inl (z1317, (IntKind.i64.wrap (z1219 + (1:Int))))))))
noncomputable def command_LayReply_l2 (a1 : api_Reply) (s : (octet_Writer × Int)) : Option ((octet_Writer × Int) ⊕ (octet_Writer)) :=
  match s with | (z1218, z1219) => (bif (decide (z1219 < ((a1.Scans).length : Int))) then ((geto a1.Scans z1219).bind fun x1229 => ((octet_Writer_Num z1218 (IntKind.u64.wrap ((x1229).length : Int)) (4:Int)).bind fun t1240 => (loopO (command_LayReply_l3 x1229 z1219) (t1240, (0:Int))))) else (inrO (some z1218)))
noncomputable def command_LayReply_j0 (a1 : api_Reply) (z937 : (octet_Writer)) : Option (octet_Writer) :=
  ((octet_Writer_Num z937 (IntKind.u64.wrap ((a1.Scans).length : Int)) (4:Int)).bind fun t943 => (loopO (command_LayReply_l2 a1) (t943, (0:Int))))
noncomputable def command_LayReply (a0 : octet_Writer) (a1 : api_Reply) : Option (octet_Writer) :=
  ((octet_Writer_Num a0 (IntKind.u64.wrap a1.E) (1:Int)).bind fun t815 => ((octet_Writer_Num t815 a1.Epoch (8:Int)).bind fun t820 => ((octet_Writer_Num t820 a1.Index (8:Int)).bind fun t825 => ((octet_Writer_Num t825 (IntKind.u64.wrap ((a1.Gots).length : Int)) (4:Int)).bind fun t830 => (((loopO (command_LayReply_l1 a1) (t830, (0:Int)))).bind (command_LayReply_j0 a1))))))

noncomputable def command_layRule (a0 : octet_Writer) (a1 : api_Rule) : Option (octet_Writer) :=
  ((octet_Writer_Num a0 a1.ID (8:Int)).bind fun t345 => ((octet_Writer_Num t345 (IntKind.u64.wrap a1.From) (1:Int)).bind fun t350 => ((octet_Writer_Num t350 (IntKind.u64.wrap a1.To) (1:Int)).bind fun t355 => ((number_Rank a1.Lo).bind fun t360 => ((octet_Writer_Num t355 t360 (8:Int)).bind fun t365 => ((number_Rank a1.Hi).bind fun t370 => ((octet_Writer_Num t365 t370 (8:Int)).bind fun t375 => ((octet_Writer_Num t375 a1.Authority (8:Int)).bind fun t380 => ((octet_Writer_Num t380 (IntKind.u64.wrap a1.Quota) (4:Int)).bind fun t385 => (some t385))))))))))

noncomputable def command_Encode_l1 (a0 : api_Command) (s : (octet_Writer × Int)) : Option ((octet_Writer × Int) ⊕ (octet_Writer)) :=
  match s with | (z550, z551) => (bif (decide (z551 < ((a0.Parts).length : Int))) then ((geto a0.Parts z551).bind fun x561 => ((octet_Writer_Num z550 (IntKind.u64.wrap x561.Shard) (1:Int)).bind fun t580 => ((command_writes t580 x561.Writes).bind fun t585 => (some (Sum.inl (t585, (IntKind.i64.wrap (z551 + (1:Int))))))))) else (inrO (some z550)))
noncomputable def command_Encode_j0 (a0 : api_Command) (z590 : (octet_Writer)) : Option ((List Int)) :=
  ((command_LayReply z590 a0.R).bind fun t596 => ((octet_Writer_Done t596).bind fun t601 => (some t601)))
noncomputable def command_Encode (a0 : api_Command) : Option ((List Int)) :=
  ((octet_Writer_Num ({ p := [] } : octet_Writer) (IntKind.u64.wrap a0.Kind) (1:Int)).bind fun t383 => (bif (a0.Kind == (1:Int)) then ((octet_Writer_Num t383 a0.Epoch (8:Int)).bind fun t389 => ((octet_Writer_Done t389).bind fun t394 => (some t394))) else (bif (a0.Kind == (2:Int)) then ((locks_Lay t383 a0.Hold).bind fun t402 => ((octet_Writer_Done t402).bind fun t407 => (some t407))) else (bif (a0.Kind == (3:Int)) then (((octet_Writer_Num t383 a0.ID.Session (8:Int)).bind fun t415 => ((octet_Writer_Num t415 a0.ID.Seq (8:Int)).bind fun t420 => (some t420))).bind fun z425 => ((octet_Writer_Num z425 (IntKind.u64.wrap a0.E) (1:Int)).bind fun t430 => ((octet_Writer_Num t430 a0.Epoch (8:Int)).bind fun t435 => ((octet_Writer_Num t435 a0.Index (8:Int)).bind fun t440 => ((command_writes t440 a0.Writes).bind fun t445 => ((octet_Writer_Done t445).bind fun t450 => (some t450))))))) else (bif (a0.Kind == (4:Int)) then (((octet_Writer_Num t383 a0.ID.Session (8:Int)).bind fun t458 => ((octet_Writer_Num t458 a0.ID.Seq (8:Int)).bind fun t463 => (some t463))).bind fun z468 => ((octet_Writer_Num z468 a0.Epoch (8:Int)).bind fun t473 => ((octet_Writer_Num t473 a0.Shards (2:Int)).bind fun t478 => ((octet_Writer_Num t478 (IntKind.u64.wrap ((a0.Parts).length : Int)) (4:Int)).bind fun t483 => (((loopO (command_Encode_l1 a0) (t483, (0:Int)))).bind (command_Encode_j0 a0)))))) else (bif (a0.Kind == (5:Int)) then (((octet_Writer_Num t383 a0.ID.Session (8:Int)).bind fun t609 => ((octet_Writer_Num t609 a0.ID.Seq (8:Int)).bind fun t614 => (some t614))).bind fun z619 => ((octet_Writer_Done z619).bind fun t624 => (some t624))) else (bif (a0.Kind == (6:Int)) then ((command_layRule t383 a0.Rule).bind fun t632 => ((octet_Writer_Flag t632 a0.On).bind fun t637 => ((octet_Writer_Done t637).bind fun t642 => (some t642)))) else (bif (a0.Kind == (7:Int)) then (((octet_Writer_Num t383 a0.ID.Session (8:Int)).bind fun t650 => ((octet_Writer_Num t650 a0.ID.Seq (8:Int)).bind fun t655 => (some t655))).bind fun z660 => ((octet_Writer_Num z660 a0.Epoch (8:Int)).bind fun t665 => ((command_layRule t665 a0.Rule).bind fun t670 => ((command_writes t670 a0.Writes).bind fun t675 => ((command_LayReply t675 a0.R).bind fun t680 => ((octet_Writer_Done t680).bind fun t685 => (some t685))))))) else ((octet_Writer_Done t383).bind fun t692 => (some t692))))))))))

noncomputable def law13_awake : Option (Bool) :=
  ((command_Encode ({ Kind := (1:Int), ID := ({ Session := (0:Int), Seq := (0:Int) } : api_ID), Epoch := (3:Int), Index := (0:Int), E := (0:Int), Hold := ({ ID := ({ Session := (0:Int), Seq := (0:Int) } : api_ID), Epoch := (0:Int), Gets := [], Scans := [], Puts := [], Data := [] } : api_Hold), Writes := [], R := ({ E := (0:Int), Epoch := (0:Int), Index := (0:Int), Gots := [], Scans := [] } : api_Reply), Shards := (0:Int), Parts := [], Rule := ({ ID := (0:Int), From := (0:Int), To := (0:Int), Lo := (0:Nat), Hi := (0:Nat), Authority := (0:Int), Quota := (0:Int) } : api_Rule), On := false } : api_Command)).bind fun t43 => (bif (sEq (toStr t43) (ByteArray.mk #[1, 3, 0, 0, 0, 0, 0, 0, 0])) then (some true) else (some false)))

noncomputable def octet_Read (a0 : (List Int)) : Option (octet_Reader) :=
  (some ({ p := a0, bad := false } : octet_Reader))

noncomputable def octet_Reader_spoil (a0 : octet_Reader) : Option (octet_Reader) :=
  (some ({ p := a0.p, bad := true } : octet_Reader))

noncomputable def octet_Reader_Num_l1 (a1 : Int) (a0 : octet_Reader) (s : (Int × Int)) : Option ((Int × Int) ⊕ (Int)) :=
  match s with | (z197, z198) => (bif (decide (z197 < (if (8:Int) < a1 then (8:Int) else a1))) then ((geto a0.p z197).bind fun x213 => (gd (decide ((0:Int) ≤ (IntKind.i64.wrap ((8:Int) * z197)))) (some (Sum.inl ((IntKind.i64.wrap (z197 + (1:Int))), (bOr .u64 z198 (iShl .u64 (IntKind.u64.wrap x213) (IntKind.i64.wrap ((8:Int) * z197))))))))) else (inrO (some z198)))
noncomputable def octet_Reader_Num_j0 (a0 : octet_Reader) (a1 : Int) (z219 : (Int)) : Option (Int × octet_Reader) :=
  (gd (fits a0.p a1 (((a0.p).length : Nat) : Int)) (some (z219, ({ p := (subs a0.p a1 (((a0.p).length : Nat) : Int)), bad := a0.bad } : octet_Reader))))
noncomputable def octet_Reader_Num (a0 : octet_Reader) (a1 : Int) : Option (Int × octet_Reader) :=
  (bif a0.bad then ((octet_Reader_spoil a0).bind fun t154 => (some ((0:Int), t154))) else (bif (decide (a1 < (0:Int))) then ((octet_Reader_spoil a0).bind fun t160 => (some ((0:Int), t160))) else (bif (decide (((a0.p).length : Int) < a1)) then ((octet_Reader_spoil a0).bind fun t166 => (some ((0:Int), t166))) else (((loopO (octet_Reader_Num_l1 a1 a0) ((0:Int), (0:Int)))).bind (octet_Reader_Num_j0 a0 a1)))))

noncomputable def octet_Reader_Count (a0 : octet_Reader) (a1 : Int) : Option (Int × octet_Reader) :=
  ((octet_Reader_Num a0 (4:Int)).bind fun t154 => (bif (decide (a1 < (0:Int))) then ((octet_Reader_spoil t154.2).bind fun t160 => (some ((0:Int), t160))) else (bif (decide (t154.1 > (IntKind.u64.wrap a1))) then ((octet_Reader_spoil t154.2).bind fun t166 => (some ((0:Int), t166))) else (some ((IntKind.i64.wrap t154.1), t154.2)))))

noncomputable def number_Back (a0 : Int) : Option (Nat) :=
  (bif ((iShr .u64 a0 (63:Int)) == (1:Int)) then (some (Int.toNat (bAndNot .u64 a0 (9223372036854775808:Int)))) else (some (Int.toNat (bXor .u64 ((18446744073709551615):Int) a0))))

noncomputable def octet_Reader_Bytes (a0 : octet_Reader) (a1 : Int) : Option ((List Int) × octet_Reader) :=
  ((octet_Reader_Num a0 (4:Int)).bind fun t595 => (bif t595.2.bad then ((octet_Reader_spoil t595.2).bind fun t605 => (some ([], t605))) else (bif (decide (a1 < (0:Int))) then ((octet_Reader_spoil t595.2).bind fun t612 => (some ([], t612))) else (bif (decide (t595.1 > (IntKind.u64.wrap a1))) then ((octet_Reader_spoil t595.2).bind fun t619 => (some ([], t619))) else (bif (decide (t595.1 > (IntKind.u64.wrap ((t595.2.p).length : Int)))) then ((octet_Reader_spoil t595.2).bind fun t626 => (some ([], t626))) else (gd (fits t595.2.p (0:Int) t595.1) (gd (room ([] : List Int) (subs t595.2.p (0:Int) t595.1)) (gd (fits t595.2.p t595.1 (((t595.2.p).length : Nat) : Int)) (some ((subs t595.2.p (0:Int) t595.1), ({ p := (subs t595.2.p t595.1 (((t595.2.p).length : Nat) : Int)), bad := t595.2.bad } : octet_Reader)))))))))))

noncomputable def locks_Read_l1 (t586 : (Int × octet_Reader)) (s : ((List Nat) × octet_Reader × Int)) : Option (((List Nat) × octet_Reader × Int) ⊕ (octet_Reader × (List Nat))) :=
  match s with | (z662, z665, z666) => (bif (decide (z666 < t586.1)) then ((octet_Reader_Num z665 (8:Int)).bind fun t676 => ((number_Back t676.1).bind fun t681 => (gd (room z662 ([t681])) (some (Sum.inl ((z662 ++ ([t681])), t676.2, (IntKind.i64.wrap (z666 + (1:Int))))))))) else (inrO (some (z665, z662))))
noncomputable def locks_Read_l3 (t706 : (Int × octet_Reader)) (s : ((List (Nat × Nat)) × octet_Reader × Int)) : Option (((List (Nat × Nat)) × octet_Reader × Int) ⊕ (octet_Reader × (List (Nat × Nat)))) :=
  match s with | (z812, z815, z816) => (bif (decide (z816 < t706.1)) then ((octet_Reader_Num z815 (8:Int)).bind fun t826 => ((number_Back t826.1).bind fun t831 => ((octet_Reader_Num t826.2 (8:Int)).bind fun t836 => ((number_Back t836.1).bind fun t841 => (gd (room z812 ([(t831, t841)])) (some (Sum.inl ((z812 ++ ([(t831, t841)])), t836.2, (IntKind.i64.wrap (z816 + (1:Int))))))))))) else (inrO (some (z815, z812))))
noncomputable def locks_Read_l5 (t866 : (Int × octet_Reader)) (s : ((List Nat) × octet_Reader × Int)) : Option (((List Nat) × octet_Reader × Int) ⊕ (octet_Reader × (List Nat))) :=
  match s with | (z942, z945, z946) => (bif (decide (z946 < t866.1)) then ((octet_Reader_Num z945 (8:Int)).bind fun t956 => ((number_Back t956.1).bind fun t961 => (gd (room z942 ([t961])) (some (Sum.inl ((z942 ++ ([t961])), t956.2, (IntKind.i64.wrap (z946 + (1:Int))))))))) else (inrO (some (z945, z942))))
noncomputable def locks_Read_j4 (t556 : (Int × octet_Reader)) (t561 : (Int × octet_Reader)) (t566 : (Int × octet_Reader)) (z700 : (List Nat)) (z860 : (List (Nat × Nat))) (s : (octet_Reader × (List Nat))) : Option (api_Hold × octet_Reader) :=
  match s with | (z977, z980) => ((octet_Reader_Bytes z977 (257:Int)).bind fun t986 => (some (({ ID := ({ Session := t556.1, Seq := t561.1 } : api_ID), Epoch := t566.1, Gets := z700, Scans := z860, Puts := z980, Data := t986.1 } : api_Hold), t986.2)))
noncomputable def locks_Read_j2 (t556 : (Int × octet_Reader)) (t561 : (Int × octet_Reader)) (t566 : (Int × octet_Reader)) (z700 : (List Nat)) (s : (octet_Reader × (List (Nat × Nat)))) : Option (api_Hold × octet_Reader) :=
  match s with | (z857, z860) => ((((octet_Reader_Count z857 (32:Int)).bind fun t866 => (loopO (locks_Read_l5 t866) ([], t866.2, (0:Int))))).bind (locks_Read_j4 t556 t561 t566 z700 z860))
noncomputable def locks_Read_j0 (t556 : (Int × octet_Reader)) (t561 : (Int × octet_Reader)) (t566 : (Int × octet_Reader)) (s : (octet_Reader × (List Nat))) : Option (api_Hold × octet_Reader) :=
  match s with | (z697, z700) => ((((octet_Reader_Count z697 (32:Int)).bind fun t706 => (loopO (locks_Read_l3 t706) ([], t706.2, (0:Int))))).bind (locks_Read_j2 t556 t561 t566 z700))
noncomputable def locks_Read (a0 : octet_Reader) : Option (api_Hold × octet_Reader) :=
  ((octet_Reader_Num a0 (8:Int)).bind fun t556 => ((octet_Reader_Num t556.2 (8:Int)).bind fun t561 => ((octet_Reader_Num t561.2 (8:Int)).bind fun t566 => ((((octet_Reader_Count t566.2 (32:Int)).bind fun t586 => (loopO (locks_Read_l1 t586) ([], t586.2, (0:Int))))).bind (locks_Read_j0 t556 t561 t566)))))

noncomputable def octet_Reader_Flag (a0 : octet_Reader) : Option (Bool × octet_Reader) :=
  ((octet_Reader_Num a0 (1:Int)).bind fun t183 => (bif (decide (t183.1 > (1:Int))) then ((octet_Reader_spoil t183.2).bind fun t189 => (some (false, t189))) else (some ((t183.1 == (1:Int)), t183.2))))

noncomputable def command_readWrites_l0 (t329 : (Int × octet_Reader)) (s : (octet_Reader × (List api_Write) × Int)) : Option ((octet_Reader × (List api_Write) × Int) ⊕ ((List api_Write) × octet_Reader)) :=
  match s with | (z450, z451, z454) => (bif (decide (z454 < t329.1)) then ((octet_Reader_Num z450 (8:Int)).bind fun t465 => ((number_Back t465.1).bind fun t470 => ((octet_Reader_Flag t465.2).bind fun t475 => ((octet_Reader_Bytes t475.2 (256:Int)).bind fun t480 => (gd (room z451 ([({ At := t470, Del := t475.1, Val := t480.1 } : api_Write)])) (some (Sum.inl (t480.2, (z451 ++ ([({ At := t470, Del := t475.1, Val := t480.1 } : api_Write)])), (IntKind.i64.wrap (z454 + (1:Int))))))))))) else (inrO (some (z451, z450))))
noncomputable def command_readWrites (a0 : octet_Reader) : Option ((List api_Write) × octet_Reader) :=
  ((octet_Reader_Count a0 (32:Int)).bind fun t329 => (loopO (command_readWrites_l0 t329) (t329.2, [], (0:Int))))

noncomputable def command_ReadReply_l1 (t1310 : (Int × octet_Reader)) (s : ((List api_Got) × octet_Reader × Int)) : Option (((List api_Got) × octet_Reader × Int) ⊕ (octet_Reader × (List api_Got))) :=
  match s with | (z1407, z1410, z1411) => (bif (decide (z1411 < t1310.1)) then ((octet_Reader_Flag z1410).bind fun t1422 => ((octet_Reader_Bytes t1422.2 (256:Int)).bind fun t1427 => (gd (room z1407 ([({ Has := t1422.1, Val := t1427.1 } : api_Got)])) (some (Sum.inl ((z1407 ++ ([({ Has := t1422.1, Val := t1427.1 } : api_Got)])), t1427.2, (IntKind.i64.wrap (z1411 + (1:Int))))))))) else (inrO (some (z1410, z1407))))
noncomputable def command_ReadReply_l4 (t2027 : (Int × octet_Reader)) (s : (octet_Reader × Int × (List api_Pair))) : Option ((octet_Reader × Int × (List api_Pair)) ⊕ (octet_Reader × (List api_Pair))) :=
  match s with | (z2133, z2134, z2135) => (bif (decide (z2134 < t2027.1)) then ((octet_Reader_Num z2133 (8:Int)).bind fun t2148 => ((number_Back t2148.1).bind fun t2153 => ((octet_Reader_Bytes t2148.2 (256:Int)).bind fun t2158 => (gd (room z2135 ([({ At := t2153, Val := t2158.1 } : api_Pair)])) (some (Sum.inl (t2158.2, (IntKind.i64.wrap (z2134 + (1:Int))), (z2135 ++ ([({ At := t2153, Val := t2158.1 } : api_Pair)]))))))))) else (inrO (some (z2133, z2135))))
noncomputable def command_ReadReply_j3 (z2011 : (List (List api_Pair))) (z2015 : Int) (s : (octet_Reader × (List api_Pair))) : Option (((List (List api_Pair)) × octet_Reader × Int) ⊕ (api_Reply × octet_Reader)) :=
  match s with | (z2179, z2182) => (gd (room z2011 ([z2182])) (some (Sum.inl ((z2011 ++ ([z2182])), z2179, (IntKind.i64.wrap (z2015 + (1:Int)))))))
noncomputable def command_ReadReply_l2 (t1461 : (Int × octet_Reader)) (t1284 : (Int × octet_Reader)) (t1289 : (Int × octet_Reader)) (t1294 : (Int × octet_Reader)) (z1453 : (List api_Got)) (s : ((List (List api_Pair)) × octet_Reader × Int)) : Option (((List (List api_Pair)) × octet_Reader × Int) ⊕ (api_Reply × octet_Reader)) :=
  match s with | (z2011, z2014, z2015) => (bif (decide (z2015 < t1461.1)) then ((((octet_Reader_Count z2014 (64:Int)).bind fun t2027 => (loopO (command_ReadReply_l4 t2027) (t2027.2, (0:Int), [])))).bind (command_ReadReply_j3 z2011 z2015)) else (inrO (some (({ E := (IntKind.i64.wrap t1284.1), Epoch := t1289.1, Index := t1294.1, Gots := z1453, Scans := z2011 } : api_Reply), z2014))))
noncomputable def command_ReadReply_j0 (t1284 : (Int × octet_Reader)) (t1289 : (Int × octet_Reader)) (t1294 : (Int × octet_Reader)) (s : (octet_Reader × (List api_Got))) : Option (api_Reply × octet_Reader) :=
  match s with | (z1450, z1453) => ((octet_Reader_Count z1450 (32:Int)).bind fun t1461 => (loopO (command_ReadReply_l2 t1461 t1284 t1289 t1294 z1453) ([], t1461.2, (0:Int))))
noncomputable def command_ReadReply (a0 : octet_Reader) : Option (api_Reply × octet_Reader) :=
  ((octet_Reader_Num a0 (1:Int)).bind fun t1284 => ((octet_Reader_Num t1284.2 (8:Int)).bind fun t1289 => ((octet_Reader_Num t1289.2 (8:Int)).bind fun t1294 => ((((octet_Reader_Count t1294.2 (32:Int)).bind fun t1310 => (loopO (command_ReadReply_l1 t1310) ([], t1310.2, (0:Int))))).bind (command_ReadReply_j0 t1284 t1289 t1294)))))

noncomputable def command_readRule (a0 : octet_Reader) : Option (api_Rule × octet_Reader) :=
  ((octet_Reader_Num a0 (8:Int)).bind fun t436 => ((octet_Reader_Num t436.2 (1:Int)).bind fun t441 => ((octet_Reader_Num t441.2 (1:Int)).bind fun t446 => ((octet_Reader_Num t446.2 (8:Int)).bind fun t451 => ((number_Back t451.1).bind fun t456 => ((octet_Reader_Num t451.2 (8:Int)).bind fun t461 => ((number_Back t461.1).bind fun t466 => ((octet_Reader_Num t461.2 (8:Int)).bind fun t471 => ((octet_Reader_Num t471.2 (4:Int)).bind fun t476 => (some (({ ID := t436.1, From := (IntKind.i64.wrap t441.1), To := (IntKind.i64.wrap t446.1), Lo := t456, Hi := t466, Authority := t471.1, Quota := (IntKind.i64.wrap t476.1) } : api_Rule), t476.2)))))))))))

noncomputable def octet_Reader_Bad (a0 : octet_Reader) : Option (Bool) :=
  (some a0.bad)

noncomputable def octet_Reader_End (a0 : octet_Reader) : Option (Bool) :=
  ((octet_Reader_Bad a0).bind fun t519 => (bif (!t519) then (some (((a0.p).length : Int) == (0:Int))) else (some false)))

noncomputable def slices_Equal_byte_byte_l0 (a0 : (List Int)) (a1 : (List Int)) (z623 : (Int)) : Option ((Int) ⊕ (Bool)) :=
  (bif (decide (z623 < ((a0).length : Int))) then ((geto a0 z623).bind fun x633 => ((geto a1 z623).bind fun x638 => (bif (x633 != x638) then (inrO (some false)) else (some (Sum.inl (IntKind.i64.wrap (z623 + (1:Int)))))))) else (inrO (some true)))
noncomputable def slices_Equal_byte_byte (a0 : (List Int)) (a1 : (List Int)) : Option (Bool) :=
  (bif (((a0).length : Int) != ((a1).length : Int)) then (some false) else (loopO (slices_Equal_byte_byte_l0 a0 a1) (0:Int)))

noncomputable def command_Decode_l2 (t734 : (Int × octet_Reader)) (s : ((List api_Part) × octet_Reader × Int)) : Option (((List api_Part) × octet_Reader × Int) ⊕ (octet_Reader × (List api_Part))) :=
  match s with | (z831, z834, z835) => (bif (decide (z835 < t734.1)) then ((octet_Reader_Num z834 (1:Int)).bind fun t846 => ((command_readWrites t846.2).bind fun t851 => (gd (room z831 ([({ Shard := (IntKind.i64.wrap t846.1), Writes := t851.1 } : api_Part)])) (some (Sum.inl ((z831 ++ ([({ Shard := (IntKind.i64.wrap t846.1), Writes := t851.1 } : api_Part)])), t851.2, (IntKind.i64.wrap (z835 + (1:Int))))))))) else (inrO (some (z834, z831))))
noncomputable def command_Decode_j1 (z714 : Int) (z715 : Int) (t720 : (Int × octet_Reader)) (t725 : (Int × octet_Reader)) (s : (octet_Reader × (List api_Part))) : Option ((octet_Reader × Int × Int × Int × Int × Int × Int × Int × Int × (List Nat) × (List (Nat × Nat)) × (List Nat) × (List Int) × (List api_Write) × Int × Int × Int × (List api_Got) × (List (List api_Pair)) × Int × (List api_Part) × Int × Int × Int × Nat × Nat × Int × Int × Bool) ⊕ (api_Command × Int)) :=
  match s with | (z874, z877) => ((command_ReadReply z874).bind fun t885 => (some (Sum.inl (t885.2, z714, z715, t720.1, (0:Int), (0:Int), (0:Int), (0:Int), (0:Int), [], [], [], [], [], t885.1.E, t885.1.Epoch, t885.1.Index, t885.1.Gots, t885.1.Scans, t725.1, z877, (0:Int), (0:Int), (0:Int), (0:Nat), (0:Nat), (0:Int), (0:Int), false))))
noncomputable def command_Decode_j0 (t598 : (Int × octet_Reader)) (a0 : (List Int)) (s : (octet_Reader × Int × Int × Int × Int × Int × Int × Int × Int × (List Nat) × (List (Nat × Nat)) × (List Nat) × (List Int) × (List api_Write) × Int × Int × Int × (List api_Got) × (List (List api_Pair)) × Int × (List api_Part) × Int × Int × Int × Nat × Nat × Int × Int × Bool)) : Option (api_Command × Int) :=
  match s with | (z995, z996, z997, z998, z999, z1000, z1001, z1002, z1003, z1006, z1009, z1012, z1015, z1018, z1019, z1020, z1021, z1024, z1027, z1028, z1031, z1032, z1033, z1034, z1035, z1036, z1037, z1038, z1039) => ((octet_Reader_End z995).bind fun t1047 => (bif (!t1047) then (some (({ Kind := (0:Int), ID := ({ Session := (0:Int), Seq := (0:Int) } : api_ID), Epoch := (0:Int), Index := (0:Int), E := (0:Int), Hold := ({ ID := ({ Session := (0:Int), Seq := (0:Int) } : api_ID), Epoch := (0:Int), Gets := [], Scans := [], Puts := [], Data := [] } : api_Hold), Writes := [], R := ({ E := (0:Int), Epoch := (0:Int), Index := (0:Int), Gots := [], Scans := [] } : api_Reply), Shards := (0:Int), Parts := [], Rule := ({ ID := (0:Int), From := (0:Int), To := (0:Int), Lo := (0:Nat), Hi := (0:Nat), Authority := (0:Int), Quota := (0:Int) } : api_Rule), On := false } : api_Command), (5:Int))) else ((command_Encode ({ Kind := (IntKind.u8.wrap t598.1), ID := ({ Session := z996, Seq := z997 } : api_ID), Epoch := z998, Index := z999, E := z1000, Hold := ({ ID := ({ Session := z1001, Seq := z1002 } : api_ID), Epoch := z1003, Gets := z1006, Scans := z1009, Puts := z1012, Data := z1015 } : api_Hold), Writes := z1018, R := ({ E := z1019, Epoch := z1020, Index := z1021, Gots := z1024, Scans := z1027 } : api_Reply), Shards := z1028, Parts := z1031, Rule := ({ ID := z1032, From := z1033, To := z1034, Lo := z1035, Hi := z1036, Authority := z1037, Quota := z1038 } : api_Rule), On := z1039 } : api_Command)).bind fun t1079 => ((slices_Equal_byte_byte t1079 a0).bind fun t1088 => (bif (!t1088) then (some (({ Kind := (0:Int), ID := ({ Session := (0:Int), Seq := (0:Int) } : api_ID), Epoch := (0:Int), Index := (0:Int), E := (0:Int), Hold := ({ ID := ({ Session := (0:Int), Seq := (0:Int) } : api_ID), Epoch := (0:Int), Gets := [], Scans := [], Puts := [], Data := [] } : api_Hold), Writes := [], R := ({ E := (0:Int), Epoch := (0:Int), Index := (0:Int), Gots := [], Scans := [] } : api_Reply), Shards := (0:Int), Parts := [], Rule := ({ ID := (0:Int), From := (0:Int), To := (0:Int), Lo := (0:Nat), Hi := (0:Nat), Authority := (0:Int), Quota := (0:Int) } : api_Rule), On := false } : api_Command), (5:Int))) else (some (({ Kind := (IntKind.u8.wrap t598.1), ID := ({ Session := z996, Seq := z997 } : api_ID), Epoch := z998, Index := z999, E := z1000, Hold := ({ ID := ({ Session := z1001, Seq := z1002 } : api_ID), Epoch := z1003, Gets := z1006, Scans := z1009, Puts := z1012, Data := z1015 } : api_Hold), Writes := z1018, R := ({ E := z1019, Epoch := z1020, Index := z1021, Gots := z1024, Scans := z1027 } : api_Reply), Shards := z1028, Parts := z1031, Rule := ({ ID := z1032, From := z1033, To := z1034, Lo := z1035, Hi := z1036, Authority := z1037, Quota := z1038 } : api_Rule), On := z1039 } : api_Command), (0:Int))))))))
noncomputable def command_Decode (a0 : (List Int)) : Option (api_Command × Int) :=
  ((octet_Read a0).bind fun t580 => ((octet_Reader_Num t580 (1:Int)).bind fun t598 => (joinO (bif ((IntKind.u8.wrap t598.1) == (1:Int)) then ((octet_Reader_Num t598.2 (8:Int)).bind fun t627 => (some (Sum.inl (t627.2, (0:Int), (0:Int), t627.1, (0:Int), (0:Int), (0:Int), (0:Int), (0:Int), [], [], [], [], [], (0:Int), (0:Int), (0:Int), [], [], (0:Int), [], (0:Int), (0:Int), (0:Int), (0:Nat), (0:Nat), (0:Int), (0:Int), false)))) else (bif ((IntKind.u8.wrap t598.1) == (2:Int)) then ((locks_Read t598.2).bind fun t635 => (some (Sum.inl (t635.2, (0:Int), (0:Int), (0:Int), (0:Int), (0:Int), t635.1.ID.Session, t635.1.ID.Seq, t635.1.Epoch, t635.1.Gets, t635.1.Scans, t635.1.Puts, t635.1.Data, [], (0:Int), (0:Int), (0:Int), [], [], (0:Int), [], (0:Int), (0:Int), (0:Int), (0:Nat), (0:Nat), (0:Int), (0:Int), false)))) else (bif ((IntKind.u8.wrap t598.1) == (3:Int)) then (((octet_Reader_Num t598.2 (8:Int)).bind fun t651 => ((octet_Reader_Num t651.2 (8:Int)).bind fun t656 => (some (t656.2, t651.1, t656.1)))).bind fun (z663, z664, z665) => ((octet_Reader_Num z663 (1:Int)).bind fun t670 => ((octet_Reader_Num t670.2 (8:Int)).bind fun t675 => ((octet_Reader_Num t675.2 (8:Int)).bind fun t680 => ((command_readWrites t680.2).bind fun t691 => (some (Sum.inl (t691.2, z664, z665, t675.1, t680.1, (IntKind.i64.wrap t670.1), (0:Int), (0:Int), (0:Int), [], [], [], [], t691.1, (0:Int), (0:Int), (0:Int), [], [], (0:Int), [], (0:Int), (0:Int), (0:Int), (0:Nat), (0:Nat), (0:Int), (0:Int), false)))))))) else (bif ((IntKind.u8.wrap t598.1) == (4:Int)) then (((octet_Reader_Num t598.2 (8:Int)).bind fun t701 => ((octet_Reader_Num t701.2 (8:Int)).bind fun t706 => (some (t706.2, t701.1, t706.1)))).bind fun (z713, z714, z715) => ((octet_Reader_Num z713 (8:Int)).bind fun t720 => ((octet_Reader_Num t720.2 (2:Int)).bind fun t725 => ((((octet_Reader_Count t725.2 (8:Int)).bind fun t734 => (loopO (command_Decode_l2 t734) ([], t734.2, (0:Int))))).bind (command_Decode_j1 z714 z715 t720 t725))))) else (bif ((IntKind.u8.wrap t598.1) == (5:Int)) then (((octet_Reader_Num t598.2 (8:Int)).bind fun t897 => ((octet_Reader_Num t897.2 (8:Int)).bind fun t902 => (some (t902.2, t897.1, t902.1)))).bind fun (z909, z910, z911) => (some (Sum.inl (z909, z910, z911, (0:Int), (0:Int), (0:Int), (0:Int), (0:Int), (0:Int), [], [], [], [], [], (0:Int), (0:Int), (0:Int), [], [], (0:Int), [], (0:Int), (0:Int), (0:Int), (0:Nat), (0:Nat), (0:Int), (0:Int), false)))) else (bif ((IntKind.u8.wrap t598.1) == (6:Int)) then ((command_readRule t598.2).bind fun t917 => ((octet_Reader_Flag t917.2).bind fun t924 => (some (Sum.inl (t924.2, (0:Int), (0:Int), (0:Int), (0:Int), (0:Int), (0:Int), (0:Int), (0:Int), [], [], [], [], [], (0:Int), (0:Int), (0:Int), [], [], (0:Int), [], t917.1.ID, t917.1.From, t917.1.To, t917.1.Lo, t917.1.Hi, t917.1.Authority, t917.1.Quota, t924.1))))) else (bif ((IntKind.u8.wrap t598.1) == (7:Int)) then (((octet_Reader_Num t598.2 (8:Int)).bind fun t932 => ((octet_Reader_Num t932.2 (8:Int)).bind fun t937 => (some (t937.2, t932.1, t937.1)))).bind fun (z944, z945, z946) => ((octet_Reader_Num z944 (8:Int)).bind fun t951 => ((command_readRule t951.2).bind fun t958 => ((command_readWrites t958.2).bind fun t965 => ((command_ReadReply t965.2).bind fun t974 => (some (Sum.inl (t974.2, z945, z946, t951.1, (0:Int), (0:Int), (0:Int), (0:Int), (0:Int), [], [], [], [], t965.1, t974.1.E, t974.1.Epoch, t974.1.Index, t974.1.Gots, t974.1.Scans, (0:Int), [], t958.1.ID, t958.1.From, t958.1.To, t958.1.Lo, t958.1.Hi, t958.1.Authority, t958.1.Quota, false)))))))) else (inrO (some (({ Kind := (0:Int), ID := ({ Session := (0:Int), Seq := (0:Int) } : api_ID), Epoch := (0:Int), Index := (0:Int), E := (0:Int), Hold := ({ ID := ({ Session := (0:Int), Seq := (0:Int) } : api_ID), Epoch := (0:Int), Gets := [], Scans := [], Puts := [], Data := [] } : api_Hold), Writes := [], R := ({ E := (0:Int), Epoch := (0:Int), Index := (0:Int), Gots := [], Scans := [] } : api_Reply), Shards := (0:Int), Parts := [], Rule := ({ ID := (0:Int), From := (0:Int), To := (0:Int), Lo := (0:Nat), Hi := (0:Nat), Authority := (0:Int), Quota := (0:Int) } : api_Rule), On := false } : api_Command), (5:Int))))))))))) (command_Decode_j0 t598 a0))))

noncomputable def ref12_Tape_Next (a0 : ref12_Tape) (a1 : Int) : Option (Int × ref12_Tape) :=
  (bif (decide (a0.I ≥ ((a0.L).length : Int))) then (some ((0:Int), a0)) else ((geto a0.L (IntKind.i64.wrap ((IntKind.i64.wrap (a0.I + (1:Int))) - (1:Int)))).bind fun x140 => (gd (!(a1 == (0:Int))) (some ((Int.tmod (IntKind.i64.wrap x140) a1), ({ L := a0.L, I := (IntKind.i64.wrap (a0.I + (1:Int))) } : ref12_Tape))))))

noncomputable def ref12_Tape_Of (a0 : ref12_Tape) : Option (api_ID × ref12_Tape) :=
  ((ref12_Tape_Next a0 (4:Int)).bind fun t191 => ((ref12_Tape_Next t191.2 (4:Int)).bind fun t196 => (some (({ Session := (IntKind.u64.wrap t191.1), Seq := (IntKind.u64.wrap (IntKind.i64.wrap ((1:Int) + t196.1))) } : api_ID), t196.2))))

noncomputable def ref12_small (a0 : Int) : Option (Nat) :=
  ((geto ([(0:Nat), (4607182418800017408:Nat), (13830554455654793216:Nat), (4612811918334230528:Nat), (9094988921128908188:Nat), (18318360957983683996:Nat), (4602678819172646912:Nat), (4613937818241073152:Nat)]) (Int.tmod a0 (8:Int))).bind fun x219 => (some x219))

noncomputable def ref12_Tape_Float (a0 : ref12_Tape) : Option (Nat × ref12_Tape) :=
  ((ref12_Tape_Next a0 (8:Int)).bind fun t210 => ((ref12_small (IntKind.u8.wrap t210.1)).bind fun t215 => (some (t215, t210.2))))

noncomputable def ref12_Tape_Val_l0 (t607 : (Int × ref12_Tape)) (s : (ref12_Tape × (List Int) × Int)) : Option ((ref12_Tape × (List Int) × Int) ⊕ ((List Int) × ref12_Tape)) :=
  match s with | (z662, z663, z666) => (bif (decide (z666 < t607.1)) then ((ref12_Tape_Next z662 (26:Int)).bind fun t676 => (gd (room z663 ([(IntKind.u8.wrap (IntKind.i64.wrap ((97:Int) + t676.1)))])) (some (Sum.inl (t676.2, (z663 ++ ([(IntKind.u8.wrap (IntKind.i64.wrap ((97:Int) + t676.1)))])), (IntKind.i64.wrap (z666 + (1:Int)))))))) else (inrO (some (z663, z662))))
noncomputable def ref12_Tape_Val (a0 : ref12_Tape) : Option ((List Int) × ref12_Tape) :=
  ((ref12_Tape_Next a0 (4:Int)).bind fun t607 => (loopO (ref12_Tape_Val_l0 t607) (t607.2, [], (0:Int))))

noncomputable def ref12_Tape_Hold_l1 (t566 : (Int × ref12_Tape)) (s : ((List Nat) × ref12_Tape × Int)) : Option (((List Nat) × ref12_Tape × Int) ⊕ (ref12_Tape × (List Nat))) :=
  match s with | (z627, z630, z631) => (bif (decide (z631 < t566.1)) then ((ref12_Tape_Float z630).bind fun t641 => (gd (room z627 ([t641.1])) (some (Sum.inl ((z627 ++ ([t641.1])), t641.2, (IntKind.i64.wrap (z631 + (1:Int)))))))) else (inrO (some (z630, z627))))
noncomputable def ref12_Tape_Hold_l3 (t666 : (Int × ref12_Tape)) (s : ((List (Nat × Nat)) × ref12_Tape × Int)) : Option (((List (Nat × Nat)) × ref12_Tape × Int) ⊕ (ref12_Tape × (List (Nat × Nat)))) :=
  match s with | (z742, z745, z746) => (bif (decide (z746 < (IntKind.i64.wrap (Int.tdiv t666.1 (2:Int))))) then ((ref12_Tape_Float z745).bind fun t756 => ((ref12_Tape_Float t756.2).bind fun t761 => (gd (room z742 ([(t756.1, t761.1)])) (some (Sum.inl ((z742 ++ ([(t756.1, t761.1)])), t761.2, (IntKind.i64.wrap (z746 + (1:Int))))))))) else (inrO (some (z745, z742))))
noncomputable def ref12_Tape_Hold_l5 (t786 : (Int × ref12_Tape)) (s : ((List Nat) × ref12_Tape × Int)) : Option (((List Nat) × ref12_Tape × Int) ⊕ (ref12_Tape × (List Nat))) :=
  match s with | (z847, z850, z851) => (bif (decide (z851 < t786.1)) then ((ref12_Tape_Float z850).bind fun t861 => (gd (room z847 ([t861.1])) (some (Sum.inl ((z847 ++ ([t861.1])), t861.2, (IntKind.i64.wrap (z851 + (1:Int)))))))) else (inrO (some (z850, z847))))
noncomputable def ref12_Tape_Hold_j4 (t541 : (api_ID × ref12_Tape)) (t546 : (Int × ref12_Tape)) (z660 : (List Nat)) (z780 : (List (Nat × Nat))) (s : (ref12_Tape × (List Nat))) : Option (api_Hold × ref12_Tape) :=
  match s with | (z877, z880) => ((ref12_Tape_Next z877 (4:Int)).bind fun t886 => (bif (t886.1 == (0:Int)) then ((ref12_Tape_Val t886.2).bind fun t892 => (some (({ ID := t541.1, Epoch := (IntKind.u64.wrap (IntKind.i64.wrap ((1:Int) + t546.1))), Gets := z660, Scans := z780, Puts := z880, Data := t892.1 } : api_Hold), t892.2))) else (some (({ ID := t541.1, Epoch := (IntKind.u64.wrap (IntKind.i64.wrap ((1:Int) + t546.1))), Gets := z660, Scans := z780, Puts := z880, Data := [] } : api_Hold), t886.2))))
noncomputable def ref12_Tape_Hold_j2 (t541 : (api_ID × ref12_Tape)) (t546 : (Int × ref12_Tape)) (z660 : (List Nat)) (s : (ref12_Tape × (List (Nat × Nat)))) : Option (api_Hold × ref12_Tape) :=
  match s with | (z777, z780) => ((ref12_Tape_Next z777 (3:Int)).bind fun t786 => (((loopO (ref12_Tape_Hold_l5 t786) ([], t786.2, (0:Int)))).bind (ref12_Tape_Hold_j4 t541 t546 z660 z780)))
noncomputable def ref12_Tape_Hold_j0 (t541 : (api_ID × ref12_Tape)) (t546 : (Int × ref12_Tape)) (s : (ref12_Tape × (List Nat))) : Option (api_Hold × ref12_Tape) :=
  match s with | (z657, z660) => ((ref12_Tape_Next z657 (3:Int)).bind fun t666 => (((loopO (ref12_Tape_Hold_l3 t666) ([], t666.2, (0:Int)))).bind (ref12_Tape_Hold_j2 t541 t546 z660)))
noncomputable def ref12_Tape_Hold (a0 : ref12_Tape) : Option (api_Hold × ref12_Tape) :=
  ((ref12_Tape_Of a0).bind fun t541 => ((ref12_Tape_Next t541.2 (4:Int)).bind fun t546 => ((ref12_Tape_Next t546.2 (3:Int)).bind fun t566 => (((loopO (ref12_Tape_Hold_l1 t566) ([], t566.2, (0:Int)))).bind (ref12_Tape_Hold_j0 t541 t546)))))

noncomputable def ref13_OfWrites_j1 (z618 : (List api_Write)) (t632 : (Nat × ref12_Tape)) (t637 : (Int × ref12_Tape)) (z621 : Int) (s : (ref12_Tape × (List Int))) : Option ((ref12_Tape × (List api_Write) × Int) ⊕ ((List api_Write) × ref12_Tape)) :=
  match s with | (z661, z664) => (gd (room z618 ([({ At := t632.1, Del := (t637.1 == (0:Int)), Val := z664 } : api_Write)])) (some (Sum.inl (z661, (z618 ++ ([({ At := t632.1, Del := (t637.1 == (0:Int)), Val := z664 } : api_Write)])), (IntKind.i64.wrap (z621 + (1:Int)))))))
noncomputable def ref13_OfWrites_l0 (t451 : (Int × ref12_Tape)) (s : (ref12_Tape × (List api_Write) × Int)) : Option ((ref12_Tape × (List api_Write) × Int) ⊕ ((List api_Write) × ref12_Tape)) :=
  match s with | (z617, z618, z621) => (bif (decide (z621 < t451.1)) then ((ref12_Tape_Float z617).bind fun t632 => ((ref12_Tape_Next t632.2 (4:Int)).bind fun t637 => (((bif (!(t637.1 == (0:Int))) then ((ref12_Tape_Val t637.2).bind fun t652 => (some (t652.2, t652.1))) else (some (t637.2, [])))).bind (ref13_OfWrites_j1 z618 t632 t637 z621)))) else (inrO (some (z618, z617))))
noncomputable def ref13_OfWrites (a0 : ref12_Tape) : Option ((List api_Write) × ref12_Tape) :=
  ((ref12_Tape_Next a0 (3:Int)).bind fun t451 => (loopO (ref13_OfWrites_l0 t451) (t451.2, [], (0:Int))))

noncomputable def ref13_OfReply_l2 (t1455 : (Int × ref12_Tape)) (s : ((List api_Got) × ref12_Tape × Int)) : Option (((List api_Got) × ref12_Tape × Int) ⊕ (ref12_Tape × (List api_Got))) :=
  match s with | (z1552, z1555, z1556) => (bif (decide (z1556 < t1455.1)) then ((ref12_Tape_Next z1555 (2:Int)).bind fun t1567 => ((ref12_Tape_Val t1567.2).bind fun t1572 => (gd (room z1552 ([({ Has := (t1567.1 == (0:Int)), Val := t1572.1 } : api_Got)])) (some (Sum.inl ((z1552 ++ ([({ Has := (t1567.1 == (0:Int)), Val := t1572.1 } : api_Got)])), t1572.2, (IntKind.i64.wrap (z1556 + (1:Int))))))))) else (inrO (some (z1555, z1552))))
noncomputable def ref13_OfReply_l5 (t2112 : (Int × ref12_Tape)) (s : (ref12_Tape × Int × (List api_Pair))) : Option ((ref12_Tape × Int × (List api_Pair)) ⊕ (ref12_Tape × (List api_Pair))) :=
  match s with | (z2203, z2204, z2205) => (bif (decide (z2204 < t2112.1)) then ((ref12_Tape_Float z2203).bind fun t2218 => ((ref12_Tape_Val t2218.2).bind fun t2223 => (gd (room z2205 ([({ At := t2218.1, Val := t2223.1 } : api_Pair)])) (some (Sum.inl (t2223.2, (IntKind.i64.wrap (z2204 + (1:Int))), (z2205 ++ ([({ At := t2218.1, Val := t2223.1 } : api_Pair)])))))))) else (inrO (some (z2203, z2205))))
noncomputable def ref13_OfReply_j4 (z2096 : (List (List api_Pair))) (z2100 : Int) (s : (ref12_Tape × (List api_Pair))) : Option (((List (List api_Pair)) × ref12_Tape × Int) ⊕ (api_Reply × ref12_Tape)) :=
  match s with | (z2244, z2247) => (gd (room z2096 ([z2247])) (some (Sum.inl ((z2096 ++ ([z2247])), z2244, (IntKind.i64.wrap (z2100 + (1:Int)))))))
noncomputable def ref13_OfReply_l3 (t1606 : (Int × ref12_Tape)) (z1447 : Int) (z1448 : Int) (z1449 : Int) (z1598 : (List api_Got)) (s : ((List (List api_Pair)) × ref12_Tape × Int)) : Option (((List (List api_Pair)) × ref12_Tape × Int) ⊕ (api_Reply × ref12_Tape)) :=
  match s with | (z2096, z2099, z2100) => (bif (decide (z2100 < (IntKind.i64.wrap (Int.tdiv t1606.1 (2:Int))))) then ((ref12_Tape_Next z2099 (3:Int)).bind fun t2112 => (((loopO (ref13_OfReply_l5 t2112) (t2112.2, (0:Int), []))).bind (ref13_OfReply_j4 z2096 z2100))) else (inrO (some (({ E := z1447, Epoch := z1448, Index := z1449, Gots := z1598, Scans := z2096 } : api_Reply), z2099))))
noncomputable def ref13_OfReply_j1 (z1447 : Int) (z1448 : Int) (z1449 : Int) (s : (ref12_Tape × (List api_Got))) : Option (api_Reply × ref12_Tape) :=
  match s with | (z1595, z1598) => ((ref12_Tape_Next z1595 (3:Int)).bind fun t1606 => (loopO (ref13_OfReply_l3 t1606 z1447 z1448 z1449 z1598) ([], t1606.2, (0:Int))))
noncomputable def ref13_OfReply_j0 (s : (ref12_Tape × Int × Int × Int)) : Option (api_Reply × ref12_Tape) :=
  match s with | (z1444, z1447, z1448, z1449) => ((ref12_Tape_Next z1444 (3:Int)).bind fun t1455 => (((loopO (ref13_OfReply_l2 t1455) ([], t1455.2, (0:Int)))).bind (ref13_OfReply_j1 z1447 z1448 z1449)))
noncomputable def ref13_OfReply (a0 : ref12_Tape) : Option (api_Reply × ref12_Tape) :=
  ((((ref12_Tape_Next a0 (6:Int)).bind fun t1345 => ((geto ([(0:Int), (0:Int), (0:Int), (8:Int), (9:Int), (3:Int)]) t1345.1).bind fun x1350 => ((ref12_Tape_Next t1345.2 (4:Int)).bind fun t1355 => ((ref12_Tape_Next t1355.2 (9:Int)).bind fun t1360 => (some (t1360.2, x1350, (IntKind.u64.wrap t1355.1), (IntKind.u64.wrap t1360.1)))))))).bind (ref13_OfReply_j0))

noncomputable def ref13_OfRule (a0 : ref12_Tape) : Option (api_Rule × ref12_Tape) :=
  ((ref12_Tape_Next a0 (3:Int)).bind fun t465 => ((ref12_Tape_Next t465.2 (4:Int)).bind fun t470 => ((ref12_Tape_Next t470.2 (4:Int)).bind fun t475 => ((ref12_Tape_Float t475.2).bind fun t480 => ((ref12_Tape_Float t480.2).bind fun t485 => ((ref12_Tape_Next t485.2 (2:Int)).bind fun t490 => ((ref12_Tape_Next t490.2 (3:Int)).bind fun t495 => (some (({ ID := (IntKind.u64.wrap t465.1), From := t470.1, To := t475.1, Lo := t480.1, Hi := t485.1, Authority := (IntKind.u64.wrap t490.1), Quota := t495.1 } : api_Rule), t495.2)))))))))

noncomputable def ref13_OfCommand_l2 (t635 : (Int × ref12_Tape)) (s : ((List api_Part) × ref12_Tape × Int)) : Option (((List api_Part) × ref12_Tape × Int) ⊕ (ref12_Tape × (List api_Part))) :=
  match s with | (z717, z720, z721) => (bif (decide (z721 < t635.1)) then ((ref13_OfWrites z720).bind fun t732 => (gd (room z717 ([({ Shard := z721, Writes := t732.1 } : api_Part)])) (some (Sum.inl ((z717 ++ ([({ Shard := z721, Writes := t732.1 } : api_Part)])), t732.2, (IntKind.i64.wrap (z721 + (1:Int)))))))) else (inrO (some (z720, z717))))
noncomputable def ref13_OfCommand_j1 (t492 : (Int × ref12_Tape)) (z615 : Int) (t599 : (api_ID × ref12_Tape)) (t621 : (Int × ref12_Tape)) (t628 : (Int × ref12_Tape)) (s : (ref12_Tape × (List api_Part))) : Option (api_Command × ref12_Tape) :=
  match s with | (z755, z758) => ((ref13_OfReply z755).bind fun t766 => (some (({ Kind := (IntKind.u8.wrap (IntKind.i64.wrap ((1:Int) + t492.1))), ID := ({ Session := z615, Seq := t599.1.Seq } : api_ID), Epoch := (IntKind.u64.wrap (IntKind.i64.wrap ((1:Int) + t621.1))), Index := (0:Int), E := (0:Int), Hold := ({ ID := ({ Session := (0:Int), Seq := (0:Int) } : api_ID), Epoch := (0:Int), Gets := [], Scans := [], Puts := [], Data := [] } : api_Hold), Writes := [], R := t766.1, Shards := (IntKind.u64.wrap t628.1), Parts := z758, Rule := ({ ID := (0:Int), From := (0:Int), To := (0:Int), Lo := (0:Nat), Hi := (0:Nat), Authority := (0:Int), Quota := (0:Int) } : api_Rule), On := false } : api_Command), t766.2)))
noncomputable def ref13_OfCommand_j0 (t492 : (Int × ref12_Tape)) (t599 : (api_ID × ref12_Tape)) (s : (ref12_Tape × Int)) : Option (api_Command × ref12_Tape) :=
  match s with | (z614, z615) => ((ref12_Tape_Next z614 (4:Int)).bind fun t621 => ((ref12_Tape_Next t621.2 (4:Int)).bind fun t628 => ((ref12_Tape_Next t628.2 (3:Int)).bind fun t635 => (((loopO (ref13_OfCommand_l2 t635) ([], t635.2, (0:Int)))).bind (ref13_OfCommand_j1 t492 z615 t599 t621 t628)))))
noncomputable def ref13_OfCommand (a0 : ref12_Tape) : Option (api_Command × ref12_Tape) :=
  ((ref12_Tape_Next a0 (7:Int)).bind fun t492 => (bif ((IntKind.u8.wrap (IntKind.i64.wrap ((1:Int) + t492.1))) == (1:Int)) then ((ref12_Tape_Next t492.2 (4:Int)).bind fun t521 => (some (({ Kind := (IntKind.u8.wrap (IntKind.i64.wrap ((1:Int) + t492.1))), ID := ({ Session := (0:Int), Seq := (0:Int) } : api_ID), Epoch := (IntKind.u64.wrap (IntKind.i64.wrap ((1:Int) + t521.1))), Index := (0:Int), E := (0:Int), Hold := ({ ID := ({ Session := (0:Int), Seq := (0:Int) } : api_ID), Epoch := (0:Int), Gets := [], Scans := [], Puts := [], Data := [] } : api_Hold), Writes := [], R := ({ E := (0:Int), Epoch := (0:Int), Index := (0:Int), Gots := [], Scans := [] } : api_Reply), Shards := (0:Int), Parts := [], Rule := ({ ID := (0:Int), From := (0:Int), To := (0:Int), Lo := (0:Nat), Hi := (0:Nat), Authority := (0:Int), Quota := (0:Int) } : api_Rule), On := false } : api_Command), t521.2))) else (bif ((IntKind.u8.wrap (IntKind.i64.wrap ((1:Int) + t492.1))) == (2:Int)) then ((ref12_Tape_Hold t492.2).bind fun t531 => (some (({ Kind := (IntKind.u8.wrap (IntKind.i64.wrap ((1:Int) + t492.1))), ID := ({ Session := (0:Int), Seq := (0:Int) } : api_ID), Epoch := (0:Int), Index := (0:Int), E := (0:Int), Hold := t531.1, Writes := [], R := ({ E := (0:Int), Epoch := (0:Int), Index := (0:Int), Gots := [], Scans := [] } : api_Reply), Shards := (0:Int), Parts := [], Rule := ({ ID := (0:Int), From := (0:Int), To := (0:Int), Lo := (0:Nat), Hi := (0:Nat), Authority := (0:Int), Quota := (0:Int) } : api_Rule), On := false } : api_Command), t531.2))) else (bif ((IntKind.u8.wrap (IntKind.i64.wrap ((1:Int) + t492.1))) == (3:Int)) then ((ref12_Tape_Of t492.2).bind fun t549 => ((ref12_Tape_Next t549.2 (3:Int)).bind fun t561 => ((geto ([(0:Int), (0:Int), (8:Int)]) t561.1).bind fun x566 => ((ref12_Tape_Next t561.2 (4:Int)).bind fun t573 => ((ref12_Tape_Next t573.2 (20:Int)).bind fun t580 => ((ref13_OfWrites t580.2).bind fun t587 => (some (({ Kind := (IntKind.u8.wrap (IntKind.i64.wrap ((1:Int) + t492.1))), ID := t549.1, Epoch := (IntKind.u64.wrap (IntKind.i64.wrap ((1:Int) + t573.1))), Index := (IntKind.u64.wrap t580.1), E := x566, Hold := ({ ID := ({ Session := (0:Int), Seq := (0:Int) } : api_ID), Epoch := (0:Int), Gets := [], Scans := [], Puts := [], Data := [] } : api_Hold), Writes := t587.1, R := ({ E := (0:Int), Epoch := (0:Int), Index := (0:Int), Gots := [], Scans := [] } : api_Reply), Shards := (0:Int), Parts := [], Rule := ({ ID := (0:Int), From := (0:Int), To := (0:Int), Lo := (0:Nat), Hi := (0:Nat), Authority := (0:Int), Quota := (0:Int) } : api_Rule), On := false } : api_Command), t587.2)))))))) else (bif ((IntKind.u8.wrap (IntKind.i64.wrap ((1:Int) + t492.1))) == (4:Int)) then ((ref12_Tape_Of t492.2).bind fun t599 => ((((ref12_Tape_Next t599.2 (6:Int)).bind fun t606 => (bif (t606.1 == (0:Int)) then (some (t606.2, (IntKind.u64.wrap (t599.1.Session + (9223372036854775808:Int))))) else (some (t606.2, t599.1.Session))))).bind (ref13_OfCommand_j0 t492 t599))) else (bif ((IntKind.u8.wrap (IntKind.i64.wrap ((1:Int) + t492.1))) == (5:Int)) then ((ref12_Tape_Of t492.2).bind fun t780 => (some (({ Kind := (IntKind.u8.wrap (IntKind.i64.wrap ((1:Int) + t492.1))), ID := t780.1, Epoch := (0:Int), Index := (0:Int), E := (0:Int), Hold := ({ ID := ({ Session := (0:Int), Seq := (0:Int) } : api_ID), Epoch := (0:Int), Gets := [], Scans := [], Puts := [], Data := [] } : api_Hold), Writes := [], R := ({ E := (0:Int), Epoch := (0:Int), Index := (0:Int), Gots := [], Scans := [] } : api_Reply), Shards := (0:Int), Parts := [], Rule := ({ ID := (0:Int), From := (0:Int), To := (0:Int), Lo := (0:Nat), Hi := (0:Nat), Authority := (0:Int), Quota := (0:Int) } : api_Rule), On := false } : api_Command), t780.2))) else (bif ((IntKind.u8.wrap (IntKind.i64.wrap ((1:Int) + t492.1))) == (6:Int)) then ((ref13_OfRule t492.2).bind fun t790 => ((ref12_Tape_Next t790.2 (3:Int)).bind fun t797 => (some (({ Kind := (IntKind.u8.wrap (IntKind.i64.wrap ((1:Int) + t492.1))), ID := ({ Session := (0:Int), Seq := (0:Int) } : api_ID), Epoch := (0:Int), Index := (0:Int), E := (0:Int), Hold := ({ ID := ({ Session := (0:Int), Seq := (0:Int) } : api_ID), Epoch := (0:Int), Gets := [], Scans := [], Puts := [], Data := [] } : api_Hold), Writes := [], R := ({ E := (0:Int), Epoch := (0:Int), Index := (0:Int), Gots := [], Scans := [] } : api_Reply), Shards := (0:Int), Parts := [], Rule := t790.1, On := (decide (t797.1 > (0:Int))) } : api_Command), t797.2)))) else (bif ((IntKind.u8.wrap (IntKind.i64.wrap ((1:Int) + t492.1))) == (7:Int)) then ((ref12_Tape_Of t492.2).bind fun t807 => ((ref12_Tape_Next t807.2 (4:Int)).bind fun t814 => ((ref13_OfRule t814.2).bind fun t821 => ((ref13_OfWrites t821.2).bind fun t828 => ((ref13_OfReply t828.2).bind fun t837 => (some (({ Kind := (IntKind.u8.wrap (IntKind.i64.wrap ((1:Int) + t492.1))), ID := t807.1, Epoch := (IntKind.u64.wrap (IntKind.i64.wrap ((1:Int) + t814.1))), Index := (0:Int), E := (0:Int), Hold := ({ ID := ({ Session := (0:Int), Seq := (0:Int) } : api_ID), Epoch := (0:Int), Gets := [], Scans := [], Puts := [], Data := [] } : api_Hold), Writes := t828.1, R := t837.1, Shards := (0:Int), Parts := [], Rule := t821.1, On := false } : api_Command), t837.2))))))) else (some (({ Kind := (IntKind.u8.wrap (IntKind.i64.wrap ((1:Int) + t492.1))), ID := ({ Session := (0:Int), Seq := (0:Int) } : api_ID), Epoch := (0:Int), Index := (0:Int), E := (0:Int), Hold := ({ ID := ({ Session := (0:Int), Seq := (0:Int) } : api_ID), Epoch := (0:Int), Gets := [], Scans := [], Puts := [], Data := [] } : api_Hold), Writes := [], R := ({ E := (0:Int), Epoch := (0:Int), Index := (0:Int), Gots := [], Scans := [] } : api_Reply), Shards := (0:Int), Parts := [], Rule := ({ ID := (0:Int), From := (0:Int), To := (0:Int), Lo := (0:Nat), Hi := (0:Nat), Authority := (0:Int), Quota := (0:Int) } : api_Rule), On := false } : api_Command), t492.2))))))))))

noncomputable def law13_CommandJunk_j0 (a1 : (List Int)) (a2 : Int) (a3 : Int) (_s : Unit) : Option (Bool) :=
  ((ref13_OfCommand ({ L := a1, I := (0:Int) } : ref12_Tape)).bind fun t325 => ((command_Encode t325.1).bind fun t362 => (gd (!(((t362).length : Int) == (0:Int))) ((geto t362 (Int.tmod (IntKind.i64.wrap a2) ((t362).length : Int))).bind fun x370 => ((command_Decode (t362.set (Int.tmod (IntKind.i64.wrap a2) ((t362).length : Int)).toNat (bXor .u8 x370 a3))).bind fun t382 => (bif (t382.2 == (0:Int)) then ((command_Encode t382.1).bind fun t435 => (bif (sEq (toStr t435) (toStr (t362.set (Int.tmod (IntKind.i64.wrap a2) ((t362).length : Int)).toNat (bXor .u8 x370 a3)))) then (some true) else (some (t382.2 == (5:Int))))) else (some (t382.2 == (5:Int)))))))))
noncomputable def law13_CommandJunk (a0 : (List Int)) (a1 : (List Int)) (a2 : Int) (a3 : Int) : Option (Bool) :=
  (law13_awake.bind fun t224 => (bif (!t224) then (law13_awake.bind fun t230 => (some t230)) else (bif (decide (((a0).length : Int) > (1000:Int))) then (law13_awake.bind fun t236 => (some t236)) else (bif (decide (((a1).length : Int) > (200:Int))) then (law13_awake.bind fun t242 => (some t242)) else ((command_Decode a0).bind fun t247 => (joinO (bif (t247.2 == (0:Int)) then ((command_Encode t247.1).bind fun t300 => (bif (!(sEq (toStr t300) (toStr a0))) then (inrO (some false)) else (bif (t247.2 != (0:Int)) then (bif (t247.2 != (5:Int)) then (inrO (some false)) else (bif (t247.1.Kind != (0:Int)) then (inrO (some false)) else (some (Sum.inl ())))) else (some (Sum.inl ()))))) else (bif (t247.2 != (0:Int)) then (bif (t247.2 != (5:Int)) then (inrO (some false)) else (bif (t247.1.Kind != (0:Int)) then (inrO (some false)) else (some (Sum.inl ())))) else (some (Sum.inl ())))) (law13_CommandJunk_j0 a1 a2 a3)))))))

noncomputable def math_Signbit (a0 : Nat) : Option (Bool) :=
  (some (decide ((IntKind.i64.wrap (Int.ofNat a0)) < (0:Int))))

noncomputable def ref01_Ahead_j0 (a0 : Nat) (a1 : Nat) (_s : Unit) : Option (Bool) :=
  (some (fLt a0 a1))
noncomputable def ref01_Ahead (a0 : Nat) (a1 : Nat) : Option (Bool) :=
  (bif (fNe a0 a0) then (some false) else (bif (fNe a1 a1) then (some true) else (joinO (bif (fEq a0 (0:Nat)) then (bif (fEq a1 (0:Nat)) then ((math_Signbit a0).bind fun t190 => (bif t190 then ((math_Signbit a1).bind fun t196 => (inrO (some (!t196)))) else (inrO (some false)))) else (some (Sum.inl ()))) else (some (Sum.inl ()))) (ref01_Ahead_j0 a0 a1))))

noncomputable def ref01_Same (a0 : Nat) (a1 : Nat) : Option (Bool) :=
  ((ref01_Ahead a0 a1).bind fun t177 => (bif (!t177) then ((ref01_Ahead a1 a0).bind fun t183 => (some (!t183))) else (some false)))

noncomputable def ref11_SameHold_l1 (a0 : api_Hold) (a1 : api_Hold) (z435 : (Int)) : Option ((Int) ⊕ (Unit ⊕ (Bool))) :=
  (bif (decide (z435 < ((a0.Gets).length : Int))) then ((geto a0.Gets z435).bind fun x445 => ((geto a1.Gets z435).bind fun x450 => ((ref01_Same x445 x450).bind fun t455 => (bif (!t455) then (inrO (inrO (some false))) else (some (Sum.inl (IntKind.i64.wrap (z435 + (1:Int))))))))) else (inrO (some (Sum.inl ()))))
noncomputable def ref11_SameHold_l3 (a0 : api_Hold) (a1 : api_Hold) (z513 : (Int)) : Option ((Int) ⊕ (Unit ⊕ (Bool))) :=
  (bif (decide (z513 < ((a0.Scans).length : Int))) then ((geto a0.Scans z513).bind fun x523 => ((geto a1.Scans z513).bind fun x528 => ((ref01_Same x523.1 x528.1).bind fun t533 => (bif (!t533) then (inrO (inrO (some false))) else ((ref01_Same x523.2 x528.2).bind fun t539 => (bif (!t539) then (inrO (inrO (some false))) else (some (Sum.inl (IntKind.i64.wrap (z513 + (1:Int))))))))))) else (inrO (some (Sum.inl ()))))
noncomputable def ref11_SameHold_l4 (a0 : api_Hold) (a1 : api_Hold) (z585 : (Int)) : Option ((Int) ⊕ (Bool)) :=
  (bif (decide (z585 < ((a0.Puts).length : Int))) then ((geto a0.Puts z585).bind fun x595 => ((geto a1.Puts z585).bind fun x600 => ((ref01_Same x595 x600).bind fun t605 => (bif (!t605) then (inrO (some false)) else (some (Sum.inl (IntKind.i64.wrap (z585 + (1:Int))))))))) else (inrO (some true)))
noncomputable def ref11_SameHold_j2 (a0 : api_Hold) (a1 : api_Hold) (_s : Unit) : Option (Bool) :=
  (loopO (ref11_SameHold_l4 a0 a1) (0:Int))
noncomputable def ref11_SameHold_j0 (a0 : api_Hold) (a1 : api_Hold) (_s : Unit) : Option (Bool) :=
  (joinO (loopO (ref11_SameHold_l3 a0 a1) (0:Int)) (ref11_SameHold_j2 a0 a1))
noncomputable def ref11_SameHold (a0 : api_Hold) (a1 : api_Hold) : Option (Bool) :=
  (bif (!((a0.ID.Session == a1.ID.Session) && (a0.ID.Seq == a1.ID.Seq))) then (some false) else (bif (a0.Epoch != a1.Epoch) then (some false) else (bif (((a0.Gets).length : Int) != ((a1.Gets).length : Int)) then (some false) else (bif (((a0.Scans).length : Int) != ((a1.Scans).length : Int)) then (some false) else (bif (((a0.Puts).length : Int) != ((a1.Puts).length : Int)) then (some false) else (bif (!(sEq (toStr a0.Data) (toStr a1.Data))) then (some false) else (joinO (loopO (ref11_SameHold_l1 a0 a1) (0:Int)) (ref11_SameHold_j0 a0 a1))))))))

noncomputable def ref13_SameWrites_l0 (a0 : (List api_Write)) (a1 : (List api_Write)) (z379 : (Int)) : Option ((Int) ⊕ (Bool)) :=
  (bif (decide (z379 < ((a0).length : Int))) then ((geto a0 z379).bind fun x389 => ((geto a1 z379).bind fun x400 => ((ref01_Same x389.At x400.At).bind fun t411 => (bif (!t411) then (inrO (some false)) else (bif (!(x389.Del == x400.Del)) then (inrO (some false)) else (bif (!(sEq (toStr x389.Val) (toStr x400.Val))) then (inrO (some false)) else (some (Sum.inl (IntKind.i64.wrap (z379 + (1:Int))))))))))) else (inrO (some true)))
noncomputable def ref13_SameWrites (a0 : (List api_Write)) (a1 : (List api_Write)) : Option (Bool) :=
  (bif (((a0).length : Int) != ((a1).length : Int)) then (some false) else (loopO (ref13_SameWrites_l0 a0 a1) (0:Int)))

noncomputable def ref11_SameGots_l0 (a0 : (List api_Got)) (a1 : (List api_Got)) (z312 : (Int)) : Option ((Int) ⊕ (Bool)) :=
  (bif (decide (z312 < ((a0).length : Int))) then ((geto a0 z312).bind fun x322 => ((geto a1 z312).bind fun x333 => (bif (!(x322.Has == x333.Has)) then (inrO (some false)) else (bif (!(sEq (toStr x322.Val) (toStr x333.Val))) then (inrO (some false)) else (some (Sum.inl (IntKind.i64.wrap (z312 + (1:Int))))))))) else (inrO (some true)))
noncomputable def ref11_SameGots (a0 : (List api_Got)) (a1 : (List api_Got)) : Option (Bool) :=
  (bif (((a0).length : Int) != ((a1).length : Int)) then (some false) else (loopO (ref11_SameGots_l0 a0 a1) (0:Int)))

noncomputable def ref11_SamePairs_l0 (a0 : (List api_Pair)) (a1 : (List api_Pair)) (z405 : (Int)) : Option ((Int) ⊕ (Bool)) :=
  (bif (decide (z405 < ((a0).length : Int))) then ((geto a0 z405).bind fun x415 => ((geto a1 z405).bind fun x426 => ((ref01_Same x415.At x426.At).bind fun t437 => (bif (!t437) then (inrO (some false)) else (bif (!(sEq (toStr x415.Val) (toStr x426.Val))) then (inrO (some false)) else (some (Sum.inl (IntKind.i64.wrap (z405 + (1:Int)))))))))) else (inrO (some true)))
noncomputable def ref11_SamePairs (a0 : (List api_Pair)) (a1 : (List api_Pair)) : Option (Bool) :=
  (bif (((a0).length : Int) != ((a1).length : Int)) then (some false) else (loopO (ref11_SamePairs_l0 a0 a1) (0:Int)))

noncomputable def ref11_SameReply_l0 (a0 : api_Reply) (a1 : api_Reply) (z357 : (Int)) : Option ((Int) ⊕ (Bool)) :=
  (bif (decide (z357 < ((a0.Scans).length : Int))) then ((geto a0.Scans z357).bind fun x367 => ((geto a1.Scans z357).bind fun x378 => ((ref11_SamePairs x367 x378).bind fun t389 => (bif (!t389) then (inrO (some false)) else (some (Sum.inl (IntKind.i64.wrap (z357 + (1:Int))))))))) else (inrO (some true)))
noncomputable def ref11_SameReply (a0 : api_Reply) (a1 : api_Reply) : Option (Bool) :=
  (bif (a0.E != a1.E) then (some false) else (bif (a0.Epoch != a1.Epoch) then (some false) else (bif (a0.Index != a1.Index) then (some false) else ((ref11_SameGots a0.Gots a1.Gots).bind fun t291 => (bif (!t291) then (some false) else (bif (((a0.Scans).length : Int) != ((a1.Scans).length : Int)) then (some false) else (loopO (ref11_SameReply_l0 a0 a1) (0:Int))))))))

noncomputable def ref11_SameRule (a0 : api_Rule) (a1 : api_Rule) : Option (Bool) :=
  (bif (a0.ID == a1.ID) then (bif (a0.From == a1.From) then (bif (a0.To == a1.To) then ((ref01_Same a0.Lo a1.Lo).bind fun t200 => (bif t200 then ((ref01_Same a0.Hi a1.Hi).bind fun t206 => (bif t206 then (bif (a0.Authority == a1.Authority) then (some (a0.Quota == a1.Quota)) else (some false)) else (some false))) else (some false))) else (some false)) else (some false)) else (some false))

noncomputable def law13_same_l0 (a0 : api_Command) (a1 : api_Command) (z387 : (Int)) : Option ((Int) ⊕ (Bool)) :=
  (bif (decide (z387 < ((a0.Parts).length : Int))) then ((geto a0.Parts z387).bind fun x397 => ((geto a1.Parts z387).bind fun x408 => (bif (x397.Shard != x408.Shard) then (inrO (some false)) else ((ref13_SameWrites x397.Writes x408.Writes).bind fun t420 => (bif (!t420) then (inrO (some false)) else (some (Sum.inl (IntKind.i64.wrap (z387 + (1:Int)))))))))) else (inrO (some true)))
noncomputable def law13_same (a0 : api_Command) (a1 : api_Command) : Option (Bool) :=
  (bif (a0.Kind != a1.Kind) then (some false) else (bif (!((a0.ID.Session == a1.ID.Session) && (a0.ID.Seq == a1.ID.Seq))) then (some false) else (bif (a0.Epoch != a1.Epoch) then (some false) else (bif (a0.Index != a1.Index) then (some false) else (bif (a0.E != a1.E) then (some false) else ((ref11_SameHold a0.Hold a1.Hold).bind fun t299 => (bif (!t299) then (some false) else ((ref13_SameWrites a0.Writes a1.Writes).bind fun t305 => (bif (!t305) then (some false) else ((ref11_SameReply a0.R a1.R).bind fun t311 => (bif (!t311) then (some false) else (bif (a0.Shards != a1.Shards) then (some false) else (bif (((a0.Parts).length : Int) != ((a1.Parts).length : Int)) then (some false) else ((ref11_SameRule a0.Rule a1.Rule).bind fun t319 => (bif (!t319) then (some false) else (bif (!(a0.On == a1.On)) then (some false) else (loopO (law13_same_l0 a0 a1) (0:Int))))))))))))))))))

noncomputable def law13_CommandApart (a0 : (List Int)) (a1 : (List Int)) : Option (Bool) :=
  (law13_awake.bind fun t195 => (bif (!t195) then (law13_awake.bind fun t201 => (some t201)) else (bif (decide (((a0).length : Int) > (100:Int))) then (law13_awake.bind fun t207 => (some t207)) else (bif (decide (((a1).length : Int) > (100:Int))) then (law13_awake.bind fun t213 => (some t213)) else ((ref13_OfCommand ({ L := a0, I := (0:Int) } : ref12_Tape)).bind fun t230 => ((ref13_OfCommand ({ L := a1, I := (0:Int) } : ref12_Tape)).bind fun t266 => ((command_Encode t230.1).bind fun t318 => ((command_Encode t266.1).bind fun t341 => ((law13_same t230.1 t266.1).bind fun t380 => (some ((sEq (toStr t318) (toStr t341)) == t380)))))))))))

noncomputable def ref02_Num_l0 (a2 : Int) (s : (Int × (List Int) × Int)) : Option ((Int × (List Int) × Int) ⊕ ((List Int))) :=
  match s with | (z225, z226, z229) => (bif (decide (z229 < a2)) then (gd (room z226 ([(IntKind.u8.wrap (bAnd .u64 z225 (255:Int)))])) (some (Sum.inl ((iShr .u64 z225 (8:Int)), (z226 ++ ([(IntKind.u8.wrap (bAnd .u64 z225 (255:Int)))])), (IntKind.i64.wrap (z229 + (1:Int))))))) else (inrO (some z226)))
noncomputable def ref02_Num (a0 : (List Int)) (a1 : Int) (a2 : Int) : Option ((List Int)) :=
  (gd (room ([] : List Int) a0) (loopO (ref02_Num_l0 a2) (a1, a0, (0:Int))))

noncomputable def ref12_ID (a0 : (List Int)) (a1 : api_ID) : Option ((List Int)) :=
  ((ref02_Num a0 a1.Session (8:Int)).bind fun t199 => ((ref02_Num t199 a1.Seq (8:Int)).bind fun t208 => (some t208)))

noncomputable def ref01_Rank (a0 : Nat) : Option (Int) :=
  (bif (fNe a0 a0) then (some (18446744073709551615:Int)) else (bif (decide ((Int.ofNat a0) ≥ (9223372036854775808:Int))) then (some (IntKind.u64.wrap ((18446744073709551615:Int) - (Int.ofNat a0)))) else (some (IntKind.u64.wrap ((Int.ofNat a0) + (9223372036854775808:Int))))))

noncomputable def ref02_Bytes (a0 : (List Int)) (a1 : (List Int)) : Option ((List Int)) :=
  ((ref02_Num a0 (IntKind.u64.wrap ((a1).length : Int)) (4:Int)).bind fun t523 => (gd (room t523 a1) (some (t523 ++ a1))))

noncomputable def ref12_Hold_l1 (a1 : api_Hold) (s : ((List Int) × Int)) : Option (((List Int) × Int) ⊕ ((List Int))) :=
  match s with | (z595, z598) => (bif (decide (z598 < ((a1.Gets).length : Int))) then ((geto a1.Gets z598).bind fun x608 => ((ref01_Rank x608).bind fun t613 => ((ref02_Num z595 t613 (8:Int)).bind fun t620 => (some (Sum.inl (t620, (IntKind.i64.wrap (z598 + (1:Int))))))))) else (inrO (some z595)))
noncomputable def ref12_Hold_l3 (a1 : api_Hold) (s : ((List Int) × Int)) : Option (((List Int) × Int) ⊕ ((List Int))) :=
  match s with | (z716, z719) => (bif (decide (z719 < ((a1.Scans).length : Int))) then ((geto a1.Scans z719).bind fun x729 => ((ref01_Rank x729.1).bind fun t734 => ((ref02_Num z716 t734 (8:Int)).bind fun t741 => ((ref01_Rank x729.2).bind fun t748 => ((ref02_Num t741 t748 (8:Int)).bind fun t755 => (some (Sum.inl (t755, (IntKind.i64.wrap (z719 + (1:Int))))))))))) else (inrO (some z716)))
noncomputable def ref12_Hold_l5 (a1 : api_Hold) (s : ((List Int) × Int)) : Option (((List Int) × Int) ⊕ ((List Int))) :=
  match s with | (z823, z826) => (bif (decide (z826 < ((a1.Puts).length : Int))) then ((geto a1.Puts z826).bind fun x836 => ((ref01_Rank x836).bind fun t841 => ((ref02_Num z823 t841 (8:Int)).bind fun t848 => (some (Sum.inl (t848, (IntKind.i64.wrap (z826 + (1:Int))))))))) else (inrO (some z823)))
noncomputable def ref12_Hold_j4 (a1 : api_Hold) (z857 : ((List Int))) : Option ((List Int)) :=
  ((ref02_Bytes z857 a1.Data).bind fun t865 => (some t865))
noncomputable def ref12_Hold_j2 (a1 : api_Hold) (z764 : ((List Int))) : Option ((List Int)) :=
  ((ref02_Num z764 (IntKind.u64.wrap ((a1.Puts).length : Int)) (4:Int)).bind fun t772 => (((loopO (ref12_Hold_l5 a1) (t772, (0:Int)))).bind (ref12_Hold_j4 a1)))
noncomputable def ref12_Hold_j0 (a1 : api_Hold) (z629 : ((List Int))) : Option ((List Int)) :=
  ((ref02_Num z629 (IntKind.u64.wrap ((a1.Scans).length : Int)) (4:Int)).bind fun t637 => (((loopO (ref12_Hold_l3 a1) (t637, (0:Int)))).bind (ref12_Hold_j2 a1)))
noncomputable def ref12_Hold (a0 : (List Int)) (a1 : api_Hold) : Option ((List Int)) :=
  ((ref12_ID a0 a1.ID).bind fun t526 => ((ref02_Num t526 a1.Epoch (8:Int)).bind fun t535 => ((ref02_Num t535 (IntKind.u64.wrap ((a1.Gets).length : Int)) (4:Int)).bind fun t544 => (((loopO (ref12_Hold_l1 a1) (t544, (0:Int)))).bind (ref12_Hold_j0 a1)))))

noncomputable def ref02_Flag (a0 : (List Int)) (a1 : Bool) : Option ((List Int)) :=
  (bif a1 then ((ref02_Num a0 (1:Int) (1:Int)).bind fun t217 => (some t217)) else ((ref02_Num a0 (0:Int) (1:Int)).bind fun t224 => (some t224)))

noncomputable def ref13_Writes_l0 (a1 : (List api_Write)) (s : ((List Int) × Int)) : Option (((List Int) × Int) ⊕ ((List Int))) :=
  match s with | (z446, z449) => (bif (decide (z449 < ((a1).length : Int))) then ((geto a1 z449).bind fun x459 => ((ref01_Rank x459.At).bind fun t470 => ((ref02_Num z446 t470 (8:Int)).bind fun t477 => ((ref02_Flag t477 x459.Del).bind fun t486 => ((ref02_Bytes t486 x459.Val).bind fun t495 => (some (Sum.inl (t495, (IntKind.i64.wrap (z449 + (1:Int))))))))))) else (inrO (some z446)))
noncomputable def ref13_Writes (a0 : (List Int)) (a1 : (List api_Write)) : Option ((List Int)) :=
  ((ref02_Num a0 (IntKind.u64.wrap ((a1).length : Int)) (4:Int)).bind fun t347 => (loopO (ref13_Writes_l0 a1) (t347, (0:Int))))

noncomputable def ref13_Reply_l1 (a1 : api_Reply) (s : ((List Int) × Int)) : Option (((List Int) × Int) ⊕ ((List Int))) :=
  match s with | (z1133, z1136) => (bif (decide (z1136 < ((a1.Gots).length : Int))) then ((geto a1.Gots z1136).bind fun x1146 => ((ref02_Flag z1133 x1146.Has).bind fun t1159 => ((ref02_Bytes t1159 x1146.Val).bind fun t1168 => (some (Sum.inl (t1168, (IntKind.i64.wrap (z1136 + (1:Int))))))))) else (inrO (some z1133)))
noncomputable def ref13_Reply_l3 (x1529 : (List api_Pair)) (z1519 : Int) (s : ((List Int) × Int)) : Option (((List Int) × Int) ⊕ (((List Int) × Int) ⊕ ((List Int)))) :=
  match s with | (z1635, z1638) => (bif (decide (z1638 < ((x1529).length : Int))) then ((geto x1529 z1638).bind fun x1654 => ((ref01_Rank x1654.At).bind fun t1665 => ((ref02_Num z1635 t1665 (8:Int)).bind fun t1672 => ((ref02_Bytes t1672 x1654.Val).bind fun t1681 => (some (Sum.inl (t1681, (IntKind.i64.wrap (z1638 + (1:Int)))))))))) else (inrO (some (Sum.inl (z1635, (IntKind.i64.wrap (z1519 + (1:Int))))))))
noncomputable def ref13_Reply_l2 (a1 : api_Reply) (s : ((List Int) × Int)) : Option (((List Int) × Int) ⊕ ((List Int))) :=
  match s with | (z1516, z1519) => (bif (decide (z1519 < ((a1.Scans).length : Int))) then ((geto a1.Scans z1519).bind fun x1529 => ((ref02_Num z1516 (IntKind.u64.wrap ((x1529).length : Int)) (4:Int)).bind fun t1542 => (loopO (ref13_Reply_l3 x1529 z1519) (t1542, (0:Int))))) else (inrO (some z1516)))
noncomputable def ref13_Reply_j0 (a1 : api_Reply) (z1177 : ((List Int))) : Option ((List Int)) :=
  ((ref02_Num z1177 (IntKind.u64.wrap ((a1.Scans).length : Int)) (4:Int)).bind fun t1185 => (loopO (ref13_Reply_l2 a1) (t1185, (0:Int))))
noncomputable def ref13_Reply (a0 : (List Int)) (a1 : api_Reply) : Option ((List Int)) :=
  ((ref02_Num a0 (IntKind.u64.wrap a1.E) (1:Int)).bind fun t1035 => ((ref02_Num t1035 a1.Epoch (8:Int)).bind fun t1044 => ((ref02_Num t1044 a1.Index (8:Int)).bind fun t1053 => ((ref02_Num t1053 (IntKind.u64.wrap ((a1.Gots).length : Int)) (4:Int)).bind fun t1062 => (((loopO (ref13_Reply_l1 a1) (t1062, (0:Int)))).bind (ref13_Reply_j0 a1))))))

noncomputable def ref13_Rule (a0 : (List Int)) (a1 : api_Rule) : Option ((List Int)) :=
  ((ref02_Num a0 a1.ID (8:Int)).bind fun t469 => ((ref02_Num t469 (IntKind.u64.wrap a1.From) (1:Int)).bind fun t478 => ((ref02_Num t478 (IntKind.u64.wrap a1.To) (1:Int)).bind fun t487 => ((ref01_Rank a1.Lo).bind fun t494 => ((ref02_Num t487 t494 (8:Int)).bind fun t501 => ((ref01_Rank a1.Hi).bind fun t508 => ((ref02_Num t501 t508 (8:Int)).bind fun t515 => ((ref02_Num t515 a1.Authority (8:Int)).bind fun t524 => ((ref02_Num t524 (IntKind.u64.wrap a1.Quota) (4:Int)).bind fun t533 => (some t533))))))))))

noncomputable def ref13_Command_l1 (a0 : api_Command) (s : ((List Int) × Int)) : Option (((List Int) × Int) ⊕ ((List Int))) :=
  match s with | (z638, z641) => (bif (decide (z641 < ((a0.Parts).length : Int))) then ((geto a0.Parts z641).bind fun x651 => ((ref02_Num z638 (IntKind.u64.wrap x651.Shard) (1:Int)).bind fun t664 => ((ref13_Writes t664 x651.Writes).bind fun t673 => (some (Sum.inl (t673, (IntKind.i64.wrap (z641 + (1:Int))))))))) else (inrO (some z638)))
noncomputable def ref13_Command_j0 (a0 : api_Command) (z682 : ((List Int))) : Option ((List Int)) :=
  ((ref13_Reply z682 a0.R).bind fun t690 => (some t690))
noncomputable def ref13_Command (a0 : api_Command) : Option ((List Int)) :=
  ((ref02_Num ([]) (IntKind.u64.wrap a0.Kind) (1:Int)).bind fun t464 => (bif (a0.Kind == (1:Int)) then ((ref02_Num t464 a0.Epoch (8:Int)).bind fun t474 => (some t474)) else (bif (a0.Kind == (2:Int)) then ((ref12_Hold t464 a0.Hold).bind fun t484 => (some t484)) else (bif (a0.Kind == (3:Int)) then ((ref12_ID t464 a0.ID).bind fun t494 => ((ref02_Num t494 (IntKind.u64.wrap a0.E) (1:Int)).bind fun t503 => ((ref02_Num t503 a0.Epoch (8:Int)).bind fun t512 => ((ref02_Num t512 a0.Index (8:Int)).bind fun t521 => ((ref13_Writes t521 a0.Writes).bind fun t530 => (some t530)))))) else (bif (a0.Kind == (4:Int)) then ((ref12_ID t464 a0.ID).bind fun t540 => ((ref02_Num t540 a0.Epoch (8:Int)).bind fun t549 => ((ref02_Num t549 a0.Shards (2:Int)).bind fun t558 => ((ref02_Num t558 (IntKind.u64.wrap ((a0.Parts).length : Int)) (4:Int)).bind fun t567 => (((loopO (ref13_Command_l1 a0) (t567, (0:Int)))).bind (ref13_Command_j0 a0)))))) else (bif (a0.Kind == (5:Int)) then ((ref12_ID t464 a0.ID).bind fun t700 => (some t700)) else (bif (a0.Kind == (6:Int)) then ((ref13_Rule t464 a0.Rule).bind fun t710 => ((ref02_Flag t710 a0.On).bind fun t719 => (some t719))) else (bif (a0.Kind == (7:Int)) then ((ref12_ID t464 a0.ID).bind fun t729 => ((ref02_Num t729 a0.Epoch (8:Int)).bind fun t738 => ((ref13_Rule t738 a0.Rule).bind fun t747 => ((ref13_Writes t747 a0.Writes).bind fun t756 => ((ref13_Reply t756 a0.R).bind fun t765 => (some t765)))))) else (some t464)))))))))

noncomputable def law13_CommandBytes_l0 (s : (ref12_Tape × Int)) : Option ((ref12_Tape × Int) ⊕ (Bool)) :=
  match s with | (z874, z875) => (bif (decide (z875 < (6:Int))) then ((ref13_OfCommand z874).bind fun t886 => ((command_Encode t886.1).bind fun t938 => ((command_Decode t938).bind fun t948 => ((ref13_Command t886.1).bind fun t1000 => (bif (!(sEq (toStr t938) (toStr t1000))) then (inrO (some false)) else (bif (t948.2 != (0:Int)) then (inrO (some false)) else ((law13_same t886.1 t948.1).bind fun t1041 => (bif (!t1041) then (inrO (some false)) else (some (Sum.inl (t886.2, (IntKind.i64.wrap (z875 + (1:Int)))))))))))))) else (inrO (some true)))
noncomputable def law13_CommandBytes (a0 : (List Int)) : Option (Bool) :=
  (law13_awake.bind fun t525 => (bif (!t525) then (law13_awake.bind fun t531 => (some t531)) else (bif (decide (((a0).length : Int) > (300:Int))) then (law13_awake.bind fun t537 => (some t537)) else (loopO (law13_CommandBytes_l0) (({ L := a0, I := (0:Int) } : ref12_Tape), (0:Int))))))
end Go.Proofs.Ytijcfglomdfglaa
