/- The models of the Go functions: plain Lean, no memory. -/
import Derived.Test.YtijcfglomdfglaaCommandLongGv
set_option linter.unusedVariables false
set_option linter.unusedSimpArgs false
set_option maxRecDepth 100000
set_option maxHeartbeats 4000000
namespace Go.Proofs.Ytijcfglomdfglaa
open Go Go.V
structure api_ID where
  Session : Int
  Seq : Int

structure api_Hold where
  ID : api_ID
  Epoch : Int
  Gets : (List Nat)
  Scans : (List (Nat × Nat))
  Puts : (List Nat)
  Data : (List Int)

structure api_Write where
  At : Nat
  Del : Bool
  Val : (List Int)

structure api_Got where
  Has : Bool
  Val : (List Int)

structure api_Pair where
  At : Nat
  Val : (List Int)

structure api_Reply where
  E : Int
  Epoch : Int
  Index : Int
  Gots : (List api_Got)
  Scans : (List (List api_Pair))

structure api_Part where
  Shard : Int
  Writes : (List api_Write)

structure api_Rule where
  ID : Int
  From : Int
  To : Int
  Lo : Nat
  Hi : Nat
  Authority : Int
  Quota : Int

structure api_Command where
  Kind : Int
  ID : api_ID
  Epoch : Int
  Index : Int
  E : Int
  Hold : api_Hold
  Writes : (List api_Write)
  R : api_Reply
  Shards : Int
  Parts : (List api_Part)
  Rule : api_Rule
  On : Bool

structure octet_Writer where
  p : (List Int)

structure octet_Reader where
  p : (List Int)
  bad : Bool

structure ref12_Tape where
  L : (List Int)
  I : Int

noncomputable def octet_Writer_lay (a0 : octet_Writer) (a1 : (List Int)) : Option (octet_Writer) :=
  (gd (room a0.p a1) (some ({ p := (a0.p ++ a1) } : octet_Writer)))

noncomputable def octet_Writer_Num_l0 (a2 : Int) (a1 : Int) (s : (octet_Writer × Int)) : Option ((octet_Writer × Int) ⊕ (octet_Writer)) :=
  match s with | (z123, z124) => (bif (decide (z124 < a2)) then (gd (decide ((0:Int) ≤ (IntKind.i64.wrap ((8:Int) * z124)))) ((octet_Writer_lay z123 ([(IntKind.u8.wrap (iShr .u64 a1 (IntKind.i64.wrap ((8:Int) * z124))))])).bind fun t142 => (some (Sum.inl (t142, (IntKind.i64.wrap (z124 + (1:Int)))))))) else (inrO (some z123)))
noncomputable def octet_Writer_Num (a0 : octet_Writer) (a1 : Int) (a2 : Int) : Option (octet_Writer) :=
  (loopO (octet_Writer_Num_l0 a2 a1) (a0, (0:Int)))

noncomputable def octet_Writer_Done (a0 : octet_Writer) : Option ((List Int)) :=
  (some a0.p)

noncomputable def math_IsNaN (a0 : Nat) : Option (Bool) :=
  (some (fNe a0 a0))

noncomputable def number_Rank (a0 : Nat) : Option (Int) :=
  ((math_IsNaN a0).bind fun t99 => (bif t99 then (some (18446744073709551615:Int)) else (bif ((iShr .u64 (Int.ofNat a0) (63:Int)) == (1:Int)) then (some (bXor .u64 ((18446744073709551615):Int) (Int.ofNat a0))) else (some (bOr .u64 (Int.ofNat a0) (9223372036854775808:Int))))))

noncomputable def octet_Writer_Bytes (a0 : octet_Writer) (a1 : (List Int)) : Option (octet_Writer) :=
  ((octet_Writer_Num a0 (IntKind.u64.wrap ((a1).length : Int)) (4:Int)).bind fun t359 => ((octet_Writer_lay t359 a1).bind fun t364 => (some t364)))

noncomputable def locks_Lay_l1 (a1 : api_Hold) (s : (octet_Writer × Int)) : Option ((octet_Writer × Int) ⊕ (octet_Writer)) :=
  match s with | (z414, z415) => (bif (decide (z415 < ((a1.Gets).length : Int))) then ((geto a1.Gets z415).bind fun x425 => ((number_Rank x425).bind fun t430 => ((octet_Writer_Num z414 t430 (8:Int)).bind fun t435 => (some (Sum.inl (t435, (IntKind.i64.wrap (z415 + (1:Int))))))))) else (inrO (some z414)))
noncomputable def locks_Lay_l3 (a1 : api_Hold) (s : (octet_Writer × Int)) : Option ((octet_Writer × Int) ⊕ (octet_Writer)) :=
  match s with | (z519, z520) => (bif (decide (z520 < ((a1.Scans).length : Int))) then ((geto a1.Scans z520).bind fun x530 => ((number_Rank x530.1).bind fun t542 => ((octet_Writer_Num z519 t542 (8:Int)).bind fun t547 => ((number_Rank x530.2).bind fun t552 => ((octet_Writer_Num t547 t552 (8:Int)).bind fun t557 => (some (Sum.inl (t557, (IntKind.i64.wrap (z520 + (1:Int))))))))))) else (inrO (some z519)))
noncomputable def locks_Lay_l5 (a1 : api_Hold) (s : (octet_Writer × Int)) : Option ((octet_Writer × Int) ⊕ (octet_Writer)) :=
  match s with | (z607, z608) => (bif (decide (z608 < ((a1.Puts).length : Int))) then ((geto a1.Puts z608).bind fun x618 => ((number_Rank x618).bind fun t623 => ((octet_Writer_Num z607 t623 (8:Int)).bind fun t628 => (some (Sum.inl (t628, (IntKind.i64.wrap (z608 + (1:Int))))))))) else (inrO (some z607)))
noncomputable def locks_Lay_j4 (a1 : api_Hold) (z633 : (octet_Writer)) : Option (octet_Writer) :=
  ((octet_Writer_Bytes z633 a1.Data).bind fun t639 => (some t639))
noncomputable def locks_Lay_j2 (a1 : api_Hold) (z562 : (octet_Writer)) : Option (octet_Writer) :=
  ((octet_Writer_Num z562 (IntKind.u64.wrap ((a1.Puts).length : Int)) (4:Int)).bind fun t568 => (((loopO (locks_Lay_l5 a1) (t568, (0:Int)))).bind (locks_Lay_j4 a1)))
noncomputable def locks_Lay_j0 (a1 : api_Hold) (z440 : (octet_Writer)) : Option (octet_Writer) :=
  ((octet_Writer_Num z440 (IntKind.u64.wrap ((a1.Scans).length : Int)) (4:Int)).bind fun t446 => (((loopO (locks_Lay_l3 a1) (t446, (0:Int)))).bind (locks_Lay_j2 a1)))
noncomputable def locks_Lay (a0 : octet_Writer) (a1 : api_Hold) : Option (octet_Writer) :=
  ((octet_Writer_Num a0 a1.ID.Session (8:Int)).bind fun t360 => ((octet_Writer_Num t360 a1.ID.Seq (8:Int)).bind fun t365 => ((octet_Writer_Num t365 a1.Epoch (8:Int)).bind fun t370 => ((octet_Writer_Num t370 (IntKind.u64.wrap ((a1.Gets).length : Int)) (4:Int)).bind fun t375 => (((loopO (locks_Lay_l1 a1) (t375, (0:Int)))).bind (locks_Lay_j0 a1))))))

noncomputable def octet_Writer_Flag (a0 : octet_Writer) (a1 : Bool) : Option (octet_Writer) :=
  (bif a1 then ((octet_Writer_Num a0 (1:Int) (1:Int)).bind fun t140 => (some t140)) else ((octet_Writer_Num a0 (0:Int) (1:Int)).bind fun t145 => (some t145)))

noncomputable def command_writes_l0 (a1 : (List api_Write)) (s : (octet_Writer × Int)) : Option ((octet_Writer × Int) ⊕ (octet_Writer)) :=
  match s with | (z327, z328) => (bif (decide (z328 < ((a1).length : Int))) then ((geto a1 z328).bind fun x338 => ((number_Rank x338.At).bind fun t357 => ((octet_Writer_Num z327 t357 (8:Int)).bind fun t362 => ((octet_Writer_Flag t362 x338.Del).bind fun t367 => ((octet_Writer_Bytes t367 x338.Val).bind fun t372 => (some (Sum.inl (t372, (IntKind.i64.wrap (z328 + (1:Int))))))))))) else (inrO (some z327)))
noncomputable def command_writes (a0 : octet_Writer) (a1 : (List api_Write)) : Option (octet_Writer) :=
  ((octet_Writer_Num a0 (IntKind.u64.wrap ((a1).length : Int)) (4:Int)).bind fun t240 => (loopO (command_writes_l0 a1) (t240, (0:Int))))

noncomputable def command_LayReply_l1 (a1 : api_Reply) (s : (octet_Writer × Int)) : Option ((octet_Writer × Int) ⊕ (octet_Writer)) :=
  match s with | (z895, z896) => (bif (decide (z896 < ((a1.Gots).length : Int))) then ((geto a1.Gots z896).bind fun x906 => ((octet_Writer_Flag z895 x906.Has).bind fun t925 => ((octet_Writer_Bytes t925 x906.Val).bind fun t930 => (some (Sum.inl (t930, (IntKind.i64.wrap (z896 + (1:Int))))))))) else (inrO (some z895)))
noncomputable def command_LayReply_l3 (x1227 : (List api_Pair)) (z1217 : Int) (s : (octet_Writer × Int)) : Option ((octet_Writer × Int) ⊕ ((octet_Writer × Int) ⊕ (octet_Writer))) :=
  match s with | (z1315, z1316) => (bif (decide (z1316 < ((x1227).length : Int))) then ((geto x1227 z1316).bind fun x1326 => ((number_Rank x1326.At).bind fun t1345 => ((octet_Writer_Num z1315 t1345 (8:Int)).bind fun t1350 => ((octet_Writer_Bytes t1350 x1326.Val).bind fun t1355 => (some (Sum.inl (t1355, (IntKind.i64.wrap (z1316 + (1:Int)))))))))) else (inrO (some (Sum.inl (z1315, (IntKind.i64.wrap (z1217 + (1:Int))))))))
noncomputable def command_LayReply_l2 (a1 : api_Reply) (s : (octet_Writer × Int)) : Option ((octet_Writer × Int) ⊕ (octet_Writer)) :=
  match s with | (z1216, z1217) => (bif (decide (z1217 < ((a1.Scans).length : Int))) then ((geto a1.Scans z1217).bind fun x1227 => ((octet_Writer_Num z1216 (IntKind.u64.wrap ((x1227).length : Int)) (4:Int)).bind fun t1238 => (loopO (command_LayReply_l3 x1227 z1217) (t1238, (0:Int))))) else (inrO (some z1216)))
noncomputable def command_LayReply_j0 (a1 : api_Reply) (z935 : (octet_Writer)) : Option (octet_Writer) :=
  ((octet_Writer_Num z935 (IntKind.u64.wrap ((a1.Scans).length : Int)) (4:Int)).bind fun t941 => (loopO (command_LayReply_l2 a1) (t941, (0:Int))))
noncomputable def command_LayReply (a0 : octet_Writer) (a1 : api_Reply) : Option (octet_Writer) :=
  ((octet_Writer_Num a0 (IntKind.u64.wrap a1.E) (1:Int)).bind fun t813 => ((octet_Writer_Num t813 a1.Epoch (8:Int)).bind fun t818 => ((octet_Writer_Num t818 a1.Index (8:Int)).bind fun t823 => ((octet_Writer_Num t823 (IntKind.u64.wrap ((a1.Gots).length : Int)) (4:Int)).bind fun t828 => (((loopO (command_LayReply_l1 a1) (t828, (0:Int)))).bind (command_LayReply_j0 a1))))))

noncomputable def command_layRule (a0 : octet_Writer) (a1 : api_Rule) : Option (octet_Writer) :=
  ((octet_Writer_Num a0 a1.ID (8:Int)).bind fun t343 => ((octet_Writer_Num t343 (IntKind.u64.wrap a1.From) (1:Int)).bind fun t348 => ((octet_Writer_Num t348 (IntKind.u64.wrap a1.To) (1:Int)).bind fun t353 => ((number_Rank a1.Lo).bind fun t358 => ((octet_Writer_Num t353 t358 (8:Int)).bind fun t363 => ((number_Rank a1.Hi).bind fun t368 => ((octet_Writer_Num t363 t368 (8:Int)).bind fun t373 => ((octet_Writer_Num t373 a1.Authority (8:Int)).bind fun t378 => ((octet_Writer_Num t378 (IntKind.u64.wrap a1.Quota) (4:Int)).bind fun t383 => (some t383))))))))))

noncomputable def command_Encode_l1 (a0 : api_Command) (s : (octet_Writer × Int)) : Option ((octet_Writer × Int) ⊕ (octet_Writer)) :=
  match s with | (z548, z549) => (bif (decide (z549 < ((a0.Parts).length : Int))) then ((geto a0.Parts z549).bind fun x559 => ((octet_Writer_Num z548 (IntKind.u64.wrap x559.Shard) (1:Int)).bind fun t578 => ((command_writes t578 x559.Writes).bind fun t583 => (some (Sum.inl (t583, (IntKind.i64.wrap (z549 + (1:Int))))))))) else (inrO (some z548)))
noncomputable def command_Encode_j0 (a0 : api_Command) (z588 : (octet_Writer)) : Option ((List Int)) :=
  ((command_LayReply z588 a0.R).bind fun t594 => ((octet_Writer_Done t594).bind fun t599 => (some t599)))
noncomputable def command_Encode (a0 : api_Command) : Option ((List Int)) :=
  ((octet_Writer_Num ({ p := [] } : octet_Writer) (IntKind.u64.wrap a0.Kind) (1:Int)).bind fun t381 => (bif (a0.Kind == (1:Int)) then ((octet_Writer_Num t381 a0.Epoch (8:Int)).bind fun t387 => ((octet_Writer_Done t387).bind fun t392 => (some t392))) else (bif (a0.Kind == (2:Int)) then ((locks_Lay t381 a0.Hold).bind fun t400 => ((octet_Writer_Done t400).bind fun t405 => (some t405))) else (bif (a0.Kind == (3:Int)) then (((octet_Writer_Num t381 a0.ID.Session (8:Int)).bind fun t413 => ((octet_Writer_Num t413 a0.ID.Seq (8:Int)).bind fun t418 => (some t418))).bind fun z423 => ((octet_Writer_Num z423 (IntKind.u64.wrap a0.E) (1:Int)).bind fun t428 => ((octet_Writer_Num t428 a0.Epoch (8:Int)).bind fun t433 => ((octet_Writer_Num t433 a0.Index (8:Int)).bind fun t438 => ((command_writes t438 a0.Writes).bind fun t443 => ((octet_Writer_Done t443).bind fun t448 => (some t448))))))) else (bif (a0.Kind == (4:Int)) then (((octet_Writer_Num t381 a0.ID.Session (8:Int)).bind fun t456 => ((octet_Writer_Num t456 a0.ID.Seq (8:Int)).bind fun t461 => (some t461))).bind fun z466 => ((octet_Writer_Num z466 a0.Epoch (8:Int)).bind fun t471 => ((octet_Writer_Num t471 a0.Shards (2:Int)).bind fun t476 => ((octet_Writer_Num t476 (IntKind.u64.wrap ((a0.Parts).length : Int)) (4:Int)).bind fun t481 => (((loopO (command_Encode_l1 a0) (t481, (0:Int)))).bind (command_Encode_j0 a0)))))) else (bif (a0.Kind == (5:Int)) then (((octet_Writer_Num t381 a0.ID.Session (8:Int)).bind fun t607 => ((octet_Writer_Num t607 a0.ID.Seq (8:Int)).bind fun t612 => (some t612))).bind fun z617 => ((octet_Writer_Done z617).bind fun t622 => (some t622))) else (bif (a0.Kind == (6:Int)) then ((command_layRule t381 a0.Rule).bind fun t630 => ((octet_Writer_Flag t630 a0.On).bind fun t635 => ((octet_Writer_Done t635).bind fun t640 => (some t640)))) else (bif (a0.Kind == (7:Int)) then (((octet_Writer_Num t381 a0.ID.Session (8:Int)).bind fun t648 => ((octet_Writer_Num t648 a0.ID.Seq (8:Int)).bind fun t653 => (some t653))).bind fun z658 => ((octet_Writer_Num z658 a0.Epoch (8:Int)).bind fun t663 => ((command_layRule t663 a0.Rule).bind fun t668 => ((command_writes t668 a0.Writes).bind fun t673 => ((command_LayReply t673 a0.R).bind fun t678 => ((octet_Writer_Done t678).bind fun t683 => (some t683))))))) else ((octet_Writer_Done t381).bind fun t690 => (some t690))))))))))

noncomputable def law13_awake : Option (Bool) :=
  ((command_Encode ({ Kind := (1:Int), ID := ({ Session := (0:Int), Seq := (0:Int) } : api_ID), Epoch := (3:Int), Index := (0:Int), E := (0:Int), Hold := ({ ID := ({ Session := (0:Int), Seq := (0:Int) } : api_ID), Epoch := (0:Int), Gets := [], Scans := [], Puts := [], Data := [] } : api_Hold), Writes := [], R := ({ E := (0:Int), Epoch := (0:Int), Index := (0:Int), Gots := [], Scans := [] } : api_Reply), Shards := (0:Int), Parts := [], Rule := ({ ID := (0:Int), From := (0:Int), To := (0:Int), Lo := (0:Nat), Hi := (0:Nat), Authority := (0:Int), Quota := (0:Int) } : api_Rule), On := false } : api_Command)).bind fun t41 => (bif (sEq (toStr t41) (ByteArray.mk #[1, 3, 0, 0, 0, 0, 0, 0, 0])) then (some true) else (some false)))

noncomputable def ref02_Num_l0 (a2 : Int) (s : (Int × (List Int) × Int)) : Option ((Int × (List Int) × Int) ⊕ ((List Int))) :=
  match s with | (z244, z245, z248) => (bif (decide (z248 < a2)) then (gd (room z245 ([(IntKind.u8.wrap (bAnd .u64 z244 (255:Int)))])) (some (Sum.inl ((iShr .u64 z244 (8:Int)), (z245 ++ ([(IntKind.u8.wrap (bAnd .u64 z244 (255:Int)))])), (IntKind.i64.wrap (z248 + (1:Int))))))) else (inrO (some z245)))
noncomputable def ref02_Num (a0 : (List Int)) (a1 : Int) (a2 : Int) : Option ((List Int)) :=
  (gd (room ([] : List Int) a0) (loopO (ref02_Num_l0 a2) (a1, a0, (0:Int))))

noncomputable def ref12_ID (a0 : (List Int)) (a1 : api_ID) : Option ((List Int)) :=
  ((ref02_Num a0 a1.Session (8:Int)).bind fun t218 => ((ref02_Num t218 a1.Seq (8:Int)).bind fun t227 => (some t227)))

noncomputable def ref01_Rank (a0 : Nat) : Option (Int) :=
  (bif (fNe a0 a0) then (some (18446744073709551615:Int)) else (bif (decide ((Int.ofNat a0) ≥ (9223372036854775808:Int))) then (some (IntKind.u64.wrap ((18446744073709551615:Int) - (Int.ofNat a0)))) else (some (IntKind.u64.wrap ((Int.ofNat a0) + (9223372036854775808:Int))))))

noncomputable def ref02_Bytes (a0 : (List Int)) (a1 : (List Int)) : Option ((List Int)) :=
  ((ref02_Num a0 (IntKind.u64.wrap ((a1).length : Int)) (4:Int)).bind fun t542 => (gd (room t542 a1) (some (t542 ++ a1))))

noncomputable def ref12_Hold_l1 (a1 : api_Hold) (s : ((List Int) × Int)) : Option (((List Int) × Int) ⊕ ((List Int))) :=
  match s with | (z614, z617) => (bif (decide (z617 < ((a1.Gets).length : Int))) then ((geto a1.Gets z617).bind fun x627 => ((ref01_Rank x627).bind fun t632 => ((ref02_Num z614 t632 (8:Int)).bind fun t639 => (some (Sum.inl (t639, (IntKind.i64.wrap (z617 + (1:Int))))))))) else (inrO (some z614)))
noncomputable def ref12_Hold_l3 (a1 : api_Hold) (s : ((List Int) × Int)) : Option (((List Int) × Int) ⊕ ((List Int))) :=
  match s with | (z735, z738) => (bif (decide (z738 < ((a1.Scans).length : Int))) then ((geto a1.Scans z738).bind fun x748 => ((ref01_Rank x748.1).bind fun t753 => ((ref02_Num z735 t753 (8:Int)).bind fun t760 => ((ref01_Rank x748.2).bind fun t767 => ((ref02_Num t760 t767 (8:Int)).bind fun t774 => (some (Sum.inl (t774, (IntKind.i64.wrap (z738 + (1:Int))))))))))) else (inrO (some z735)))
noncomputable def ref12_Hold_l5 (a1 : api_Hold) (s : ((List Int) × Int)) : Option (((List Int) × Int) ⊕ ((List Int))) :=
  match s with | (z842, z845) => (bif (decide (z845 < ((a1.Puts).length : Int))) then ((geto a1.Puts z845).bind fun x855 => ((ref01_Rank x855).bind fun t860 => ((ref02_Num z842 t860 (8:Int)).bind fun t867 => (some (Sum.inl (t867, (IntKind.i64.wrap (z845 + (1:Int))))))))) else (inrO (some z842)))
noncomputable def ref12_Hold_j4 (a1 : api_Hold) (z876 : ((List Int))) : Option ((List Int)) :=
  ((ref02_Bytes z876 a1.Data).bind fun t884 => (some t884))
noncomputable def ref12_Hold_j2 (a1 : api_Hold) (z783 : ((List Int))) : Option ((List Int)) :=
  ((ref02_Num z783 (IntKind.u64.wrap ((a1.Puts).length : Int)) (4:Int)).bind fun t791 => (((loopO (ref12_Hold_l5 a1) (t791, (0:Int)))).bind (ref12_Hold_j4 a1)))
noncomputable def ref12_Hold_j0 (a1 : api_Hold) (z648 : ((List Int))) : Option ((List Int)) :=
  ((ref02_Num z648 (IntKind.u64.wrap ((a1.Scans).length : Int)) (4:Int)).bind fun t656 => (((loopO (ref12_Hold_l3 a1) (t656, (0:Int)))).bind (ref12_Hold_j2 a1)))
noncomputable def ref12_Hold (a0 : (List Int)) (a1 : api_Hold) : Option ((List Int)) :=
  ((ref12_ID a0 a1.ID).bind fun t545 => ((ref02_Num t545 a1.Epoch (8:Int)).bind fun t554 => ((ref02_Num t554 (IntKind.u64.wrap ((a1.Gets).length : Int)) (4:Int)).bind fun t563 => (((loopO (ref12_Hold_l1 a1) (t563, (0:Int)))).bind (ref12_Hold_j0 a1)))))

noncomputable def ref02_Flag (a0 : (List Int)) (a1 : Bool) : Option ((List Int)) :=
  (bif a1 then ((ref02_Num a0 (1:Int) (1:Int)).bind fun t236 => (some t236)) else ((ref02_Num a0 (0:Int) (1:Int)).bind fun t243 => (some t243)))

noncomputable def ref13_Writes_l0 (a1 : (List api_Write)) (s : ((List Int) × Int)) : Option (((List Int) × Int) ⊕ ((List Int))) :=
  match s with | (z465, z468) => (bif (decide (z468 < ((a1).length : Int))) then ((geto a1 z468).bind fun x478 => ((ref01_Rank x478.At).bind fun t489 => ((ref02_Num z465 t489 (8:Int)).bind fun t496 => ((ref02_Flag t496 x478.Del).bind fun t505 => ((ref02_Bytes t505 x478.Val).bind fun t514 => (some (Sum.inl (t514, (IntKind.i64.wrap (z468 + (1:Int))))))))))) else (inrO (some z465)))
noncomputable def ref13_Writes (a0 : (List Int)) (a1 : (List api_Write)) : Option ((List Int)) :=
  ((ref02_Num a0 (IntKind.u64.wrap ((a1).length : Int)) (4:Int)).bind fun t366 => (loopO (ref13_Writes_l0 a1) (t366, (0:Int))))

noncomputable def ref13_Reply_l1 (a1 : api_Reply) (s : ((List Int) × Int)) : Option (((List Int) × Int) ⊕ ((List Int))) :=
  match s with | (z1152, z1155) => (bif (decide (z1155 < ((a1.Gots).length : Int))) then ((geto a1.Gots z1155).bind fun x1165 => ((ref02_Flag z1152 x1165.Has).bind fun t1178 => ((ref02_Bytes t1178 x1165.Val).bind fun t1187 => (some (Sum.inl (t1187, (IntKind.i64.wrap (z1155 + (1:Int))))))))) else (inrO (some z1152)))
noncomputable def ref13_Reply_l3 (x1548 : (List api_Pair)) (z1538 : Int) (s : ((List Int) × Int)) : Option (((List Int) × Int) ⊕ (((List Int) × Int) ⊕ ((List Int)))) :=
  match s with | (z1654, z1657) => (bif (decide (z1657 < ((x1548).length : Int))) then ((geto x1548 z1657).bind fun x1673 => ((ref01_Rank x1673.At).bind fun t1684 => ((ref02_Num z1654 t1684 (8:Int)).bind fun t1691 => ((ref02_Bytes t1691 x1673.Val).bind fun t1700 => (some (Sum.inl (t1700, (IntKind.i64.wrap (z1657 + (1:Int)))))))))) else (inrO (some (Sum.inl (z1654, (IntKind.i64.wrap (z1538 + (1:Int))))))))
noncomputable def ref13_Reply_l2 (a1 : api_Reply) (s : ((List Int) × Int)) : Option (((List Int) × Int) ⊕ ((List Int))) :=
  match s with | (z1535, z1538) => (bif (decide (z1538 < ((a1.Scans).length : Int))) then ((geto a1.Scans z1538).bind fun x1548 => ((ref02_Num z1535 (IntKind.u64.wrap ((x1548).length : Int)) (4:Int)).bind fun t1561 => (loopO (ref13_Reply_l3 x1548 z1538) (t1561, (0:Int))))) else (inrO (some z1535)))
noncomputable def ref13_Reply_j0 (a1 : api_Reply) (z1196 : ((List Int))) : Option ((List Int)) :=
  ((ref02_Num z1196 (IntKind.u64.wrap ((a1.Scans).length : Int)) (4:Int)).bind fun t1204 => (loopO (ref13_Reply_l2 a1) (t1204, (0:Int))))
noncomputable def ref13_Reply (a0 : (List Int)) (a1 : api_Reply) : Option ((List Int)) :=
  ((ref02_Num a0 (IntKind.u64.wrap a1.E) (1:Int)).bind fun t1054 => ((ref02_Num t1054 a1.Epoch (8:Int)).bind fun t1063 => ((ref02_Num t1063 a1.Index (8:Int)).bind fun t1072 => ((ref02_Num t1072 (IntKind.u64.wrap ((a1.Gots).length : Int)) (4:Int)).bind fun t1081 => (((loopO (ref13_Reply_l1 a1) (t1081, (0:Int)))).bind (ref13_Reply_j0 a1))))))

noncomputable def ref13_Rule (a0 : (List Int)) (a1 : api_Rule) : Option ((List Int)) :=
  ((ref02_Num a0 a1.ID (8:Int)).bind fun t488 => ((ref02_Num t488 (IntKind.u64.wrap a1.From) (1:Int)).bind fun t497 => ((ref02_Num t497 (IntKind.u64.wrap a1.To) (1:Int)).bind fun t506 => ((ref01_Rank a1.Lo).bind fun t513 => ((ref02_Num t506 t513 (8:Int)).bind fun t520 => ((ref01_Rank a1.Hi).bind fun t527 => ((ref02_Num t520 t527 (8:Int)).bind fun t534 => ((ref02_Num t534 a1.Authority (8:Int)).bind fun t543 => ((ref02_Num t543 (IntKind.u64.wrap a1.Quota) (4:Int)).bind fun t552 => (some t552))))))))))

noncomputable def ref13_Command_l1 (a0 : api_Command) (s : ((List Int) × Int)) : Option (((List Int) × Int) ⊕ ((List Int))) :=
  match s with | (z657, z660) => (bif (decide (z660 < ((a0.Parts).length : Int))) then ((geto a0.Parts z660).bind fun x670 => ((ref02_Num z657 (IntKind.u64.wrap x670.Shard) (1:Int)).bind fun t683 => ((ref13_Writes t683 x670.Writes).bind fun t692 => (some (Sum.inl (t692, (IntKind.i64.wrap (z660 + (1:Int))))))))) else (inrO (some z657)))
noncomputable def ref13_Command_j0 (a0 : api_Command) (z701 : ((List Int))) : Option ((List Int)) :=
  ((ref13_Reply z701 a0.R).bind fun t709 => (some t709))
noncomputable def ref13_Command (a0 : api_Command) : Option ((List Int)) :=
  ((ref02_Num ([]) (IntKind.u64.wrap a0.Kind) (1:Int)).bind fun t483 => (bif (a0.Kind == (1:Int)) then ((ref02_Num t483 a0.Epoch (8:Int)).bind fun t493 => (some t493)) else (bif (a0.Kind == (2:Int)) then ((ref12_Hold t483 a0.Hold).bind fun t503 => (some t503)) else (bif (a0.Kind == (3:Int)) then ((ref12_ID t483 a0.ID).bind fun t513 => ((ref02_Num t513 (IntKind.u64.wrap a0.E) (1:Int)).bind fun t522 => ((ref02_Num t522 a0.Epoch (8:Int)).bind fun t531 => ((ref02_Num t531 a0.Index (8:Int)).bind fun t540 => ((ref13_Writes t540 a0.Writes).bind fun t549 => (some t549)))))) else (bif (a0.Kind == (4:Int)) then ((ref12_ID t483 a0.ID).bind fun t559 => ((ref02_Num t559 a0.Epoch (8:Int)).bind fun t568 => ((ref02_Num t568 a0.Shards (2:Int)).bind fun t577 => ((ref02_Num t577 (IntKind.u64.wrap ((a0.Parts).length : Int)) (4:Int)).bind fun t586 => (((loopO (ref13_Command_l1 a0) (t586, (0:Int)))).bind (ref13_Command_j0 a0)))))) else (bif (a0.Kind == (5:Int)) then ((ref12_ID t483 a0.ID).bind fun t719 => (some t719)) else (bif (a0.Kind == (6:Int)) then ((ref13_Rule t483 a0.Rule).bind fun t729 => ((ref02_Flag t729 a0.On).bind fun t738 => (some t738))) else (bif (a0.Kind == (7:Int)) then ((ref12_ID t483 a0.ID).bind fun t748 => ((ref02_Num t748 a0.Epoch (8:Int)).bind fun t757 => ((ref13_Rule t757 a0.Rule).bind fun t766 => ((ref13_Writes t766 a0.Writes).bind fun t775 => ((ref13_Reply t775 a0.R).bind fun t784 => (some t784)))))) else (some t483)))))))))

noncomputable def octet_Read (a0 : (List Int)) : Option (octet_Reader) :=
  (some ({ p := a0, bad := false } : octet_Reader))

noncomputable def octet_Reader_spoil (a0 : octet_Reader) : Option (octet_Reader) :=
  (some ({ p := a0.p, bad := true } : octet_Reader))

noncomputable def octet_Reader_Num_l1 (a1 : Int) (a0 : octet_Reader) (s : (Int × Int)) : Option ((Int × Int) ⊕ (Int)) :=
  match s with | (z330, z331) => (bif (decide (z330 < (if (8:Int) < a1 then (8:Int) else a1))) then ((geto a0.p z330).bind fun x346 => (gd (decide ((0:Int) ≤ (IntKind.i64.wrap ((8:Int) * z330)))) (some (Sum.inl ((IntKind.i64.wrap (z330 + (1:Int))), (bOr .u64 z331 (iShl .u64 (IntKind.u64.wrap x346) (IntKind.i64.wrap ((8:Int) * z330))))))))) else (inrO (some z331)))
noncomputable def octet_Reader_Num_j0 (a0 : octet_Reader) (a1 : Int) (z352 : (Int)) : Option (Int × octet_Reader) :=
  (gd (fits a0.p a1 (((a0.p).length : Nat) : Int)) (some (z352, ({ p := (subs a0.p a1 (((a0.p).length : Nat) : Int)), bad := a0.bad } : octet_Reader))))
noncomputable def octet_Reader_Num (a0 : octet_Reader) (a1 : Int) : Option (Int × octet_Reader) :=
  (bif a0.bad then ((octet_Reader_spoil a0).bind fun t287 => (some ((0:Int), t287))) else (bif (decide (a1 < (0:Int))) then ((octet_Reader_spoil a0).bind fun t293 => (some ((0:Int), t293))) else (bif (decide (((a0.p).length : Int) < a1)) then ((octet_Reader_spoil a0).bind fun t299 => (some ((0:Int), t299))) else (((loopO (octet_Reader_Num_l1 a1 a0) ((0:Int), (0:Int)))).bind (octet_Reader_Num_j0 a0 a1)))))

noncomputable def octet_Reader_Count (a0 : octet_Reader) (a1 : Int) : Option (Int × octet_Reader) :=
  ((octet_Reader_Num a0 (4:Int)).bind fun t287 => (bif (decide (a1 < (0:Int))) then ((octet_Reader_spoil t287.2).bind fun t293 => (some ((0:Int), t293))) else (bif (decide (t287.1 > (IntKind.u64.wrap a1))) then ((octet_Reader_spoil t287.2).bind fun t299 => (some ((0:Int), t299))) else (some ((IntKind.i64.wrap t287.1), t287.2)))))

noncomputable def number_Back (a0 : Int) : Option (Nat) :=
  (bif ((iShr .u64 a0 (63:Int)) == (1:Int)) then (some (Int.toNat (bAndNot .u64 a0 (9223372036854775808:Int)))) else (some (Int.toNat (bXor .u64 ((18446744073709551615):Int) a0))))

noncomputable def octet_Reader_Bytes (a0 : octet_Reader) (a1 : Int) : Option ((List Int) × octet_Reader) :=
  ((octet_Reader_Num a0 (4:Int)).bind fun t728 => (bif t728.2.bad then ((octet_Reader_spoil t728.2).bind fun t738 => (some ([], t738))) else (bif (decide (a1 < (0:Int))) then ((octet_Reader_spoil t728.2).bind fun t745 => (some ([], t745))) else (bif (decide (t728.1 > (IntKind.u64.wrap a1))) then ((octet_Reader_spoil t728.2).bind fun t752 => (some ([], t752))) else (bif (decide (t728.1 > (IntKind.u64.wrap ((t728.2.p).length : Int)))) then ((octet_Reader_spoil t728.2).bind fun t759 => (some ([], t759))) else (gd (fits t728.2.p (0:Int) t728.1) (gd (room ([] : List Int) (subs t728.2.p (0:Int) t728.1)) (gd (fits t728.2.p t728.1 (((t728.2.p).length : Nat) : Int)) (some ((subs t728.2.p (0:Int) t728.1), ({ p := (subs t728.2.p t728.1 (((t728.2.p).length : Nat) : Int)), bad := t728.2.bad } : octet_Reader)))))))))))

noncomputable def locks_Read_l1 (t719 : (Int × octet_Reader)) (s : ((List Nat) × octet_Reader × Int)) : Option (((List Nat) × octet_Reader × Int) ⊕ (octet_Reader × (List Nat))) :=
  match s with | (z795, z798, z799) => (bif (decide (z799 < t719.1)) then ((octet_Reader_Num z798 (8:Int)).bind fun t809 => ((number_Back t809.1).bind fun t814 => (gd (room z795 ([t814])) (some (Sum.inl ((z795 ++ ([t814])), t809.2, (IntKind.i64.wrap (z799 + (1:Int))))))))) else (inrO (some (z798, z795))))
noncomputable def locks_Read_l3 (t839 : (Int × octet_Reader)) (s : ((List (Nat × Nat)) × octet_Reader × Int)) : Option (((List (Nat × Nat)) × octet_Reader × Int) ⊕ (octet_Reader × (List (Nat × Nat)))) :=
  match s with | (z945, z948, z949) => (bif (decide (z949 < t839.1)) then ((octet_Reader_Num z948 (8:Int)).bind fun t959 => ((number_Back t959.1).bind fun t964 => ((octet_Reader_Num t959.2 (8:Int)).bind fun t969 => ((number_Back t969.1).bind fun t974 => (gd (room z945 ([(t964, t974)])) (some (Sum.inl ((z945 ++ ([(t964, t974)])), t969.2, (IntKind.i64.wrap (z949 + (1:Int))))))))))) else (inrO (some (z948, z945))))
noncomputable def locks_Read_l5 (t999 : (Int × octet_Reader)) (s : ((List Nat) × octet_Reader × Int)) : Option (((List Nat) × octet_Reader × Int) ⊕ (octet_Reader × (List Nat))) :=
  match s with | (z1075, z1078, z1079) => (bif (decide (z1079 < t999.1)) then ((octet_Reader_Num z1078 (8:Int)).bind fun t1089 => ((number_Back t1089.1).bind fun t1094 => (gd (room z1075 ([t1094])) (some (Sum.inl ((z1075 ++ ([t1094])), t1089.2, (IntKind.i64.wrap (z1079 + (1:Int))))))))) else (inrO (some (z1078, z1075))))
noncomputable def locks_Read_j4 (t689 : (Int × octet_Reader)) (t694 : (Int × octet_Reader)) (t699 : (Int × octet_Reader)) (z833 : (List Nat)) (z993 : (List (Nat × Nat))) (s : (octet_Reader × (List Nat))) : Option (api_Hold × octet_Reader) :=
  match s with | (z1110, z1113) => ((octet_Reader_Bytes z1110 (257:Int)).bind fun t1119 => (some (({ ID := ({ Session := t689.1, Seq := t694.1 } : api_ID), Epoch := t699.1, Gets := z833, Scans := z993, Puts := z1113, Data := t1119.1 } : api_Hold), t1119.2)))
noncomputable def locks_Read_j2 (t689 : (Int × octet_Reader)) (t694 : (Int × octet_Reader)) (t699 : (Int × octet_Reader)) (z833 : (List Nat)) (s : (octet_Reader × (List (Nat × Nat)))) : Option (api_Hold × octet_Reader) :=
  match s with | (z990, z993) => ((((octet_Reader_Count z990 (32:Int)).bind fun t999 => (loopO (locks_Read_l5 t999) ([], t999.2, (0:Int))))).bind (locks_Read_j4 t689 t694 t699 z833 z993))
noncomputable def locks_Read_j0 (t689 : (Int × octet_Reader)) (t694 : (Int × octet_Reader)) (t699 : (Int × octet_Reader)) (s : (octet_Reader × (List Nat))) : Option (api_Hold × octet_Reader) :=
  match s with | (z830, z833) => ((((octet_Reader_Count z830 (32:Int)).bind fun t839 => (loopO (locks_Read_l3 t839) ([], t839.2, (0:Int))))).bind (locks_Read_j2 t689 t694 t699 z833))
noncomputable def locks_Read (a0 : octet_Reader) : Option (api_Hold × octet_Reader) :=
  ((octet_Reader_Num a0 (8:Int)).bind fun t689 => ((octet_Reader_Num t689.2 (8:Int)).bind fun t694 => ((octet_Reader_Num t694.2 (8:Int)).bind fun t699 => ((((octet_Reader_Count t699.2 (32:Int)).bind fun t719 => (loopO (locks_Read_l1 t719) ([], t719.2, (0:Int))))).bind (locks_Read_j0 t689 t694 t699)))))

noncomputable def octet_Reader_Flag (a0 : octet_Reader) : Option (Bool × octet_Reader) :=
  ((octet_Reader_Num a0 (1:Int)).bind fun t316 => (bif (decide (t316.1 > (1:Int))) then ((octet_Reader_spoil t316.2).bind fun t322 => (some (false, t322))) else (some ((t316.1 == (1:Int)), t316.2))))

noncomputable def command_readWrites_l0 (t462 : (Int × octet_Reader)) (s : (octet_Reader × (List api_Write) × Int)) : Option ((octet_Reader × (List api_Write) × Int) ⊕ ((List api_Write) × octet_Reader)) :=
  match s with | (z583, z584, z587) => (bif (decide (z587 < t462.1)) then ((octet_Reader_Num z583 (8:Int)).bind fun t598 => ((number_Back t598.1).bind fun t603 => ((octet_Reader_Flag t598.2).bind fun t608 => ((octet_Reader_Bytes t608.2 (256:Int)).bind fun t613 => (gd (room z584 ([({ At := t603, Del := t608.1, Val := t613.1 } : api_Write)])) (some (Sum.inl (t613.2, (z584 ++ ([({ At := t603, Del := t608.1, Val := t613.1 } : api_Write)])), (IntKind.i64.wrap (z587 + (1:Int))))))))))) else (inrO (some (z584, z583))))
noncomputable def command_readWrites (a0 : octet_Reader) : Option ((List api_Write) × octet_Reader) :=
  ((octet_Reader_Count a0 (32:Int)).bind fun t462 => (loopO (command_readWrites_l0 t462) (t462.2, [], (0:Int))))

noncomputable def command_ReadReply_l1 (t1443 : (Int × octet_Reader)) (s : ((List api_Got) × octet_Reader × Int)) : Option (((List api_Got) × octet_Reader × Int) ⊕ (octet_Reader × (List api_Got))) :=
  match s with | (z1540, z1543, z1544) => (bif (decide (z1544 < t1443.1)) then ((octet_Reader_Flag z1543).bind fun t1555 => ((octet_Reader_Bytes t1555.2 (256:Int)).bind fun t1560 => (gd (room z1540 ([({ Has := t1555.1, Val := t1560.1 } : api_Got)])) (some (Sum.inl ((z1540 ++ ([({ Has := t1555.1, Val := t1560.1 } : api_Got)])), t1560.2, (IntKind.i64.wrap (z1544 + (1:Int))))))))) else (inrO (some (z1543, z1540))))
noncomputable def command_ReadReply_l4 (t2160 : (Int × octet_Reader)) (s : (octet_Reader × Int × (List api_Pair))) : Option ((octet_Reader × Int × (List api_Pair)) ⊕ (octet_Reader × (List api_Pair))) :=
  match s with | (z2266, z2267, z2268) => (bif (decide (z2267 < t2160.1)) then ((octet_Reader_Num z2266 (8:Int)).bind fun t2281 => ((number_Back t2281.1).bind fun t2286 => ((octet_Reader_Bytes t2281.2 (256:Int)).bind fun t2291 => (gd (room z2268 ([({ At := t2286, Val := t2291.1 } : api_Pair)])) (some (Sum.inl (t2291.2, (IntKind.i64.wrap (z2267 + (1:Int))), (z2268 ++ ([({ At := t2286, Val := t2291.1 } : api_Pair)]))))))))) else (inrO (some (z2266, z2268))))
noncomputable def command_ReadReply_j3 (z2144 : (List (List api_Pair))) (z2148 : Int) (s : (octet_Reader × (List api_Pair))) : Option (((List (List api_Pair)) × octet_Reader × Int) ⊕ (api_Reply × octet_Reader)) :=
  match s with | (z2312, z2315) => (gd (room z2144 ([z2315])) (some (Sum.inl ((z2144 ++ ([z2315])), z2312, (IntKind.i64.wrap (z2148 + (1:Int)))))))
noncomputable def command_ReadReply_l2 (t1594 : (Int × octet_Reader)) (t1417 : (Int × octet_Reader)) (t1422 : (Int × octet_Reader)) (t1427 : (Int × octet_Reader)) (z1586 : (List api_Got)) (s : ((List (List api_Pair)) × octet_Reader × Int)) : Option (((List (List api_Pair)) × octet_Reader × Int) ⊕ (api_Reply × octet_Reader)) :=
  match s with | (z2144, z2147, z2148) => (bif (decide (z2148 < t1594.1)) then ((((octet_Reader_Count z2147 (64:Int)).bind fun t2160 => (loopO (command_ReadReply_l4 t2160) (t2160.2, (0:Int), [])))).bind (command_ReadReply_j3 z2144 z2148)) else (inrO (some (({ E := (IntKind.i64.wrap t1417.1), Epoch := t1422.1, Index := t1427.1, Gots := z1586, Scans := z2144 } : api_Reply), z2147))))
noncomputable def command_ReadReply_j0 (t1417 : (Int × octet_Reader)) (t1422 : (Int × octet_Reader)) (t1427 : (Int × octet_Reader)) (s : (octet_Reader × (List api_Got))) : Option (api_Reply × octet_Reader) :=
  match s with | (z1583, z1586) => ((octet_Reader_Count z1583 (32:Int)).bind fun t1594 => (loopO (command_ReadReply_l2 t1594 t1417 t1422 t1427 z1586) ([], t1594.2, (0:Int))))
noncomputable def command_ReadReply (a0 : octet_Reader) : Option (api_Reply × octet_Reader) :=
  ((octet_Reader_Num a0 (1:Int)).bind fun t1417 => ((octet_Reader_Num t1417.2 (8:Int)).bind fun t1422 => ((octet_Reader_Num t1422.2 (8:Int)).bind fun t1427 => ((((octet_Reader_Count t1427.2 (32:Int)).bind fun t1443 => (loopO (command_ReadReply_l1 t1443) ([], t1443.2, (0:Int))))).bind (command_ReadReply_j0 t1417 t1422 t1427)))))

noncomputable def command_readRule (a0 : octet_Reader) : Option (api_Rule × octet_Reader) :=
  ((octet_Reader_Num a0 (8:Int)).bind fun t569 => ((octet_Reader_Num t569.2 (1:Int)).bind fun t574 => ((octet_Reader_Num t574.2 (1:Int)).bind fun t579 => ((octet_Reader_Num t579.2 (8:Int)).bind fun t584 => ((number_Back t584.1).bind fun t589 => ((octet_Reader_Num t584.2 (8:Int)).bind fun t594 => ((number_Back t594.1).bind fun t599 => ((octet_Reader_Num t594.2 (8:Int)).bind fun t604 => ((octet_Reader_Num t604.2 (4:Int)).bind fun t609 => (some (({ ID := t569.1, From := (IntKind.i64.wrap t574.1), To := (IntKind.i64.wrap t579.1), Lo := t589, Hi := t599, Authority := t604.1, Quota := (IntKind.i64.wrap t609.1) } : api_Rule), t609.2)))))))))))

noncomputable def octet_Reader_Bad (a0 : octet_Reader) : Option (Bool) :=
  (some a0.bad)

noncomputable def octet_Reader_End (a0 : octet_Reader) : Option (Bool) :=
  ((octet_Reader_Bad a0).bind fun t625 => (bif (!t625) then (some (((a0.p).length : Int) == (0:Int))) else (some false)))

noncomputable def slices_Equal_byte_byte_l0 (a0 : (List Int)) (a1 : (List Int)) (z729 : (Int)) : Option ((Int) ⊕ (Bool)) :=
  (bif (decide (z729 < ((a0).length : Int))) then ((geto a0 z729).bind fun x739 => ((geto a1 z729).bind fun x744 => (bif (x739 != x744) then (inrO (some false)) else (some (Sum.inl (IntKind.i64.wrap (z729 + (1:Int)))))))) else (inrO (some true)))
noncomputable def slices_Equal_byte_byte (a0 : (List Int)) (a1 : (List Int)) : Option (Bool) :=
  (bif (((a0).length : Int) != ((a1).length : Int)) then (some false) else (loopO (slices_Equal_byte_byte_l0 a0 a1) (0:Int)))

noncomputable def command_Decode_l2 (t840 : (Int × octet_Reader)) (s : ((List api_Part) × octet_Reader × Int)) : Option (((List api_Part) × octet_Reader × Int) ⊕ (octet_Reader × (List api_Part))) :=
  match s with | (z937, z940, z941) => (bif (decide (z941 < t840.1)) then ((octet_Reader_Num z940 (1:Int)).bind fun t952 => ((command_readWrites t952.2).bind fun t957 => (gd (room z937 ([({ Shard := (IntKind.i64.wrap t952.1), Writes := t957.1 } : api_Part)])) (some (Sum.inl ((z937 ++ ([({ Shard := (IntKind.i64.wrap t952.1), Writes := t957.1 } : api_Part)])), t957.2, (IntKind.i64.wrap (z941 + (1:Int))))))))) else (inrO (some (z940, z937))))
noncomputable def command_Decode_j1 (t704 : (Int × octet_Reader)) (z820 : Int) (z821 : Int) (t826 : (Int × octet_Reader)) (t831 : (Int × octet_Reader)) (s : (octet_Reader × (List api_Part))) : Option ((octet_Reader × api_Command) ⊕ (api_Command × Int)) :=
  match s with | (z980, z983) => ((command_ReadReply z980).bind fun t991 => (some (Sum.inl (t991.2, ({ Kind := (IntKind.u8.wrap t704.1), ID := ({ Session := z820, Seq := z821 } : api_ID), Epoch := t826.1, Index := (0:Int), E := (0:Int), Hold := ({ ID := ({ Session := (0:Int), Seq := (0:Int) } : api_ID), Epoch := (0:Int), Gets := [], Scans := [], Puts := [], Data := [] } : api_Hold), Writes := [], R := t991.1, Shards := t831.1, Parts := z983, Rule := ({ ID := (0:Int), From := (0:Int), To := (0:Int), Lo := (0:Nat), Hi := (0:Nat), Authority := (0:Int), Quota := (0:Int) } : api_Rule), On := false } : api_Command)))))
noncomputable def command_Decode_j0 (a0 : (List Int)) (s : (octet_Reader × api_Command)) : Option (api_Command × Int) :=
  match s with | (z1101, z1102) => ((octet_Reader_End z1101).bind fun t1126 => (bif (!t1126) then (some (({ Kind := (0:Int), ID := ({ Session := (0:Int), Seq := (0:Int) } : api_ID), Epoch := (0:Int), Index := (0:Int), E := (0:Int), Hold := ({ ID := ({ Session := (0:Int), Seq := (0:Int) } : api_ID), Epoch := (0:Int), Gets := [], Scans := [], Puts := [], Data := [] } : api_Hold), Writes := [], R := ({ E := (0:Int), Epoch := (0:Int), Index := (0:Int), Gots := [], Scans := [] } : api_Reply), Shards := (0:Int), Parts := [], Rule := ({ ID := (0:Int), From := (0:Int), To := (0:Int), Lo := (0:Nat), Hi := (0:Nat), Authority := (0:Int), Quota := (0:Int) } : api_Rule), On := false } : api_Command), (5:Int))) else ((command_Encode z1102).bind fun t1158 => ((slices_Equal_byte_byte t1158 a0).bind fun t1167 => (bif (!t1167) then (some (({ Kind := (0:Int), ID := ({ Session := (0:Int), Seq := (0:Int) } : api_ID), Epoch := (0:Int), Index := (0:Int), E := (0:Int), Hold := ({ ID := ({ Session := (0:Int), Seq := (0:Int) } : api_ID), Epoch := (0:Int), Gets := [], Scans := [], Puts := [], Data := [] } : api_Hold), Writes := [], R := ({ E := (0:Int), Epoch := (0:Int), Index := (0:Int), Gots := [], Scans := [] } : api_Reply), Shards := (0:Int), Parts := [], Rule := ({ ID := (0:Int), From := (0:Int), To := (0:Int), Lo := (0:Nat), Hi := (0:Nat), Authority := (0:Int), Quota := (0:Int) } : api_Rule), On := false } : api_Command), (5:Int))) else (some (z1102, (0:Int))))))))
noncomputable def command_Decode (a0 : (List Int)) : Option (api_Command × Int) :=
  ((octet_Read a0).bind fun t686 => ((octet_Reader_Num t686 (1:Int)).bind fun t704 => (joinO (bif ((IntKind.u8.wrap t704.1) == (1:Int)) then ((octet_Reader_Num t704.2 (8:Int)).bind fun t733 => (some (Sum.inl (t733.2, ({ Kind := (IntKind.u8.wrap t704.1), ID := ({ Session := (0:Int), Seq := (0:Int) } : api_ID), Epoch := t733.1, Index := (0:Int), E := (0:Int), Hold := ({ ID := ({ Session := (0:Int), Seq := (0:Int) } : api_ID), Epoch := (0:Int), Gets := [], Scans := [], Puts := [], Data := [] } : api_Hold), Writes := [], R := ({ E := (0:Int), Epoch := (0:Int), Index := (0:Int), Gots := [], Scans := [] } : api_Reply), Shards := (0:Int), Parts := [], Rule := ({ ID := (0:Int), From := (0:Int), To := (0:Int), Lo := (0:Nat), Hi := (0:Nat), Authority := (0:Int), Quota := (0:Int) } : api_Rule), On := false } : api_Command))))) else (bif ((IntKind.u8.wrap t704.1) == (2:Int)) then ((locks_Read t704.2).bind fun t741 => (some (Sum.inl (t741.2, ({ Kind := (IntKind.u8.wrap t704.1), ID := ({ Session := (0:Int), Seq := (0:Int) } : api_ID), Epoch := (0:Int), Index := (0:Int), E := (0:Int), Hold := t741.1, Writes := [], R := ({ E := (0:Int), Epoch := (0:Int), Index := (0:Int), Gots := [], Scans := [] } : api_Reply), Shards := (0:Int), Parts := [], Rule := ({ ID := (0:Int), From := (0:Int), To := (0:Int), Lo := (0:Nat), Hi := (0:Nat), Authority := (0:Int), Quota := (0:Int) } : api_Rule), On := false } : api_Command))))) else (bif ((IntKind.u8.wrap t704.1) == (3:Int)) then (((octet_Reader_Num t704.2 (8:Int)).bind fun t757 => ((octet_Reader_Num t757.2 (8:Int)).bind fun t762 => (some (t762.2, t757.1, t762.1)))).bind fun (z769, z770, z771) => ((octet_Reader_Num z769 (1:Int)).bind fun t776 => ((octet_Reader_Num t776.2 (8:Int)).bind fun t781 => ((octet_Reader_Num t781.2 (8:Int)).bind fun t786 => ((command_readWrites t786.2).bind fun t797 => (some (Sum.inl (t797.2, ({ Kind := (IntKind.u8.wrap t704.1), ID := ({ Session := z770, Seq := z771 } : api_ID), Epoch := t781.1, Index := t786.1, E := (IntKind.i64.wrap t776.1), Hold := ({ ID := ({ Session := (0:Int), Seq := (0:Int) } : api_ID), Epoch := (0:Int), Gets := [], Scans := [], Puts := [], Data := [] } : api_Hold), Writes := t797.1, R := ({ E := (0:Int), Epoch := (0:Int), Index := (0:Int), Gots := [], Scans := [] } : api_Reply), Shards := (0:Int), Parts := [], Rule := ({ ID := (0:Int), From := (0:Int), To := (0:Int), Lo := (0:Nat), Hi := (0:Nat), Authority := (0:Int), Quota := (0:Int) } : api_Rule), On := false } : api_Command))))))))) else (bif ((IntKind.u8.wrap t704.1) == (4:Int)) then (((octet_Reader_Num t704.2 (8:Int)).bind fun t807 => ((octet_Reader_Num t807.2 (8:Int)).bind fun t812 => (some (t812.2, t807.1, t812.1)))).bind fun (z819, z820, z821) => ((octet_Reader_Num z819 (8:Int)).bind fun t826 => ((octet_Reader_Num t826.2 (2:Int)).bind fun t831 => ((((octet_Reader_Count t831.2 (8:Int)).bind fun t840 => (loopO (command_Decode_l2 t840) ([], t840.2, (0:Int))))).bind (command_Decode_j1 t704 z820 z821 t826 t831))))) else (bif ((IntKind.u8.wrap t704.1) == (5:Int)) then (((octet_Reader_Num t704.2 (8:Int)).bind fun t1003 => ((octet_Reader_Num t1003.2 (8:Int)).bind fun t1008 => (some (t1008.2, t1003.1, t1008.1)))).bind fun (z1015, z1016, z1017) => (some (Sum.inl (z1015, ({ Kind := (IntKind.u8.wrap t704.1), ID := ({ Session := z1016, Seq := z1017 } : api_ID), Epoch := (0:Int), Index := (0:Int), E := (0:Int), Hold := ({ ID := ({ Session := (0:Int), Seq := (0:Int) } : api_ID), Epoch := (0:Int), Gets := [], Scans := [], Puts := [], Data := [] } : api_Hold), Writes := [], R := ({ E := (0:Int), Epoch := (0:Int), Index := (0:Int), Gots := [], Scans := [] } : api_Reply), Shards := (0:Int), Parts := [], Rule := ({ ID := (0:Int), From := (0:Int), To := (0:Int), Lo := (0:Nat), Hi := (0:Nat), Authority := (0:Int), Quota := (0:Int) } : api_Rule), On := false } : api_Command))))) else (bif ((IntKind.u8.wrap t704.1) == (6:Int)) then ((command_readRule t704.2).bind fun t1023 => ((octet_Reader_Flag t1023.2).bind fun t1030 => (some (Sum.inl (t1030.2, ({ Kind := (IntKind.u8.wrap t704.1), ID := ({ Session := (0:Int), Seq := (0:Int) } : api_ID), Epoch := (0:Int), Index := (0:Int), E := (0:Int), Hold := ({ ID := ({ Session := (0:Int), Seq := (0:Int) } : api_ID), Epoch := (0:Int), Gets := [], Scans := [], Puts := [], Data := [] } : api_Hold), Writes := [], R := ({ E := (0:Int), Epoch := (0:Int), Index := (0:Int), Gots := [], Scans := [] } : api_Reply), Shards := (0:Int), Parts := [], Rule := t1023.1, On := t1030.1 } : api_Command)))))) else (bif ((IntKind.u8.wrap t704.1) == (7:Int)) then (((octet_Reader_Num t704.2 (8:Int)).bind fun t1038 => ((octet_Reader_Num t1038.2 (8:Int)).bind fun t1043 => (some (t1043.2, t1038.1, t1043.1)))).bind fun (z1050, z1051, z1052) => ((octet_Reader_Num z1050 (8:Int)).bind fun t1057 => ((command_readRule t1057.2).bind fun t1064 => ((command_readWrites t1064.2).bind fun t1071 => ((command_ReadReply t1071.2).bind fun t1080 => (some (Sum.inl (t1080.2, ({ Kind := (IntKind.u8.wrap t704.1), ID := ({ Session := z1051, Seq := z1052 } : api_ID), Epoch := t1057.1, Index := (0:Int), E := (0:Int), Hold := ({ ID := ({ Session := (0:Int), Seq := (0:Int) } : api_ID), Epoch := (0:Int), Gets := [], Scans := [], Puts := [], Data := [] } : api_Hold), Writes := t1071.1, R := t1080.1, Shards := (0:Int), Parts := [], Rule := t1064.1, On := false } : api_Command))))))))) else (inrO (some (({ Kind := (0:Int), ID := ({ Session := (0:Int), Seq := (0:Int) } : api_ID), Epoch := (0:Int), Index := (0:Int), E := (0:Int), Hold := ({ ID := ({ Session := (0:Int), Seq := (0:Int) } : api_ID), Epoch := (0:Int), Gets := [], Scans := [], Puts := [], Data := [] } : api_Hold), Writes := [], R := ({ E := (0:Int), Epoch := (0:Int), Index := (0:Int), Gots := [], Scans := [] } : api_Reply), Shards := (0:Int), Parts := [], Rule := ({ ID := (0:Int), From := (0:Int), To := (0:Int), Lo := (0:Nat), Hi := (0:Nat), Authority := (0:Int), Quota := (0:Int) } : api_Rule), On := false } : api_Command), (5:Int))))))))))) (command_Decode_j0 a0))))

noncomputable def math_Signbit (a0 : Nat) : Option (Bool) :=
  (some (decide ((IntKind.i64.wrap (Int.ofNat a0)) < (0:Int))))

noncomputable def ref01_Ahead_j0 (a0 : Nat) (a1 : Nat) (_s : Unit) : Option (Bool) :=
  (some (fLt a0 a1))
noncomputable def ref01_Ahead (a0 : Nat) (a1 : Nat) : Option (Bool) :=
  (bif (fNe a0 a0) then (some false) else (bif (fNe a1 a1) then (some true) else (joinO (bif (fEq a0 (0:Nat)) then (bif (fEq a1 (0:Nat)) then ((math_Signbit a0).bind fun t280 => (bif t280 then ((math_Signbit a1).bind fun t286 => (inrO (some (!t286)))) else (inrO (some false)))) else (some (Sum.inl ()))) else (some (Sum.inl ()))) (ref01_Ahead_j0 a0 a1))))

noncomputable def ref01_Same (a0 : Nat) (a1 : Nat) : Option (Bool) :=
  ((ref01_Ahead a0 a1).bind fun t267 => (bif (!t267) then ((ref01_Ahead a1 a0).bind fun t273 => (some (!t273))) else (some false)))

noncomputable def ref11_SameHold_l1 (a0 : api_Hold) (a1 : api_Hold) (z525 : (Int)) : Option ((Int) ⊕ (Unit ⊕ (Bool))) :=
  (bif (decide (z525 < ((a0.Gets).length : Int))) then ((geto a0.Gets z525).bind fun x535 => ((geto a1.Gets z525).bind fun x540 => ((ref01_Same x535 x540).bind fun t545 => (bif (!t545) then (inrO (inrO (some false))) else (some (Sum.inl (IntKind.i64.wrap (z525 + (1:Int))))))))) else (inrO (some (Sum.inl ()))))
noncomputable def ref11_SameHold_l3 (a0 : api_Hold) (a1 : api_Hold) (z603 : (Int)) : Option ((Int) ⊕ (Unit ⊕ (Bool))) :=
  (bif (decide (z603 < ((a0.Scans).length : Int))) then ((geto a0.Scans z603).bind fun x613 => ((geto a1.Scans z603).bind fun x618 => ((ref01_Same x613.1 x618.1).bind fun t623 => (bif (!t623) then (inrO (inrO (some false))) else ((ref01_Same x613.2 x618.2).bind fun t629 => (bif (!t629) then (inrO (inrO (some false))) else (some (Sum.inl (IntKind.i64.wrap (z603 + (1:Int))))))))))) else (inrO (some (Sum.inl ()))))
noncomputable def ref11_SameHold_l4 (a0 : api_Hold) (a1 : api_Hold) (z675 : (Int)) : Option ((Int) ⊕ (Bool)) :=
  (bif (decide (z675 < ((a0.Puts).length : Int))) then ((geto a0.Puts z675).bind fun x685 => ((geto a1.Puts z675).bind fun x690 => ((ref01_Same x685 x690).bind fun t695 => (bif (!t695) then (inrO (some false)) else (some (Sum.inl (IntKind.i64.wrap (z675 + (1:Int))))))))) else (inrO (some true)))
noncomputable def ref11_SameHold_j2 (a0 : api_Hold) (a1 : api_Hold) (_s : Unit) : Option (Bool) :=
  (loopO (ref11_SameHold_l4 a0 a1) (0:Int))
noncomputable def ref11_SameHold_j0 (a0 : api_Hold) (a1 : api_Hold) (_s : Unit) : Option (Bool) :=
  (joinO (loopO (ref11_SameHold_l3 a0 a1) (0:Int)) (ref11_SameHold_j2 a0 a1))
noncomputable def ref11_SameHold (a0 : api_Hold) (a1 : api_Hold) : Option (Bool) :=
  (bif (!((a0.ID.Session == a1.ID.Session) && (a0.ID.Seq == a1.ID.Seq))) then (some false) else (bif (a0.Epoch != a1.Epoch) then (some false) else (bif (((a0.Gets).length : Int) != ((a1.Gets).length : Int)) then (some false) else (bif (((a0.Scans).length : Int) != ((a1.Scans).length : Int)) then (some false) else (bif (((a0.Puts).length : Int) != ((a1.Puts).length : Int)) then (some false) else (bif (!(sEq (toStr a0.Data) (toStr a1.Data))) then (some false) else (joinO (loopO (ref11_SameHold_l1 a0 a1) (0:Int)) (ref11_SameHold_j0 a0 a1))))))))

noncomputable def ref13_SameWrites_l0 (a0 : (List api_Write)) (a1 : (List api_Write)) (z469 : (Int)) : Option ((Int) ⊕ (Bool)) :=
  (bif (decide (z469 < ((a0).length : Int))) then ((geto a0 z469).bind fun x479 => ((geto a1 z469).bind fun x490 => ((ref01_Same x479.At x490.At).bind fun t501 => (bif (!t501) then (inrO (some false)) else (bif (!(x479.Del == x490.Del)) then (inrO (some false)) else (bif (!(sEq (toStr x479.Val) (toStr x490.Val))) then (inrO (some false)) else (some (Sum.inl (IntKind.i64.wrap (z469 + (1:Int))))))))))) else (inrO (some true)))
noncomputable def ref13_SameWrites (a0 : (List api_Write)) (a1 : (List api_Write)) : Option (Bool) :=
  (bif (((a0).length : Int) != ((a1).length : Int)) then (some false) else (loopO (ref13_SameWrites_l0 a0 a1) (0:Int)))

noncomputable def ref11_SameGots_l0 (a0 : (List api_Got)) (a1 : (List api_Got)) (z402 : (Int)) : Option ((Int) ⊕ (Bool)) :=
  (bif (decide (z402 < ((a0).length : Int))) then ((geto a0 z402).bind fun x412 => ((geto a1 z402).bind fun x423 => (bif (!(x412.Has == x423.Has)) then (inrO (some false)) else (bif (!(sEq (toStr x412.Val) (toStr x423.Val))) then (inrO (some false)) else (some (Sum.inl (IntKind.i64.wrap (z402 + (1:Int))))))))) else (inrO (some true)))
noncomputable def ref11_SameGots (a0 : (List api_Got)) (a1 : (List api_Got)) : Option (Bool) :=
  (bif (((a0).length : Int) != ((a1).length : Int)) then (some false) else (loopO (ref11_SameGots_l0 a0 a1) (0:Int)))

noncomputable def ref11_SamePairs_l0 (a0 : (List api_Pair)) (a1 : (List api_Pair)) (z495 : (Int)) : Option ((Int) ⊕ (Bool)) :=
  (bif (decide (z495 < ((a0).length : Int))) then ((geto a0 z495).bind fun x505 => ((geto a1 z495).bind fun x516 => ((ref01_Same x505.At x516.At).bind fun t527 => (bif (!t527) then (inrO (some false)) else (bif (!(sEq (toStr x505.Val) (toStr x516.Val))) then (inrO (some false)) else (some (Sum.inl (IntKind.i64.wrap (z495 + (1:Int)))))))))) else (inrO (some true)))
noncomputable def ref11_SamePairs (a0 : (List api_Pair)) (a1 : (List api_Pair)) : Option (Bool) :=
  (bif (((a0).length : Int) != ((a1).length : Int)) then (some false) else (loopO (ref11_SamePairs_l0 a0 a1) (0:Int)))

noncomputable def ref11_SameReply_l0 (a0 : api_Reply) (a1 : api_Reply) (z447 : (Int)) : Option ((Int) ⊕ (Bool)) :=
  (bif (decide (z447 < ((a0.Scans).length : Int))) then ((geto a0.Scans z447).bind fun x457 => ((geto a1.Scans z447).bind fun x468 => ((ref11_SamePairs x457 x468).bind fun t479 => (bif (!t479) then (inrO (some false)) else (some (Sum.inl (IntKind.i64.wrap (z447 + (1:Int))))))))) else (inrO (some true)))
noncomputable def ref11_SameReply (a0 : api_Reply) (a1 : api_Reply) : Option (Bool) :=
  (bif (a0.E != a1.E) then (some false) else (bif (a0.Epoch != a1.Epoch) then (some false) else (bif (a0.Index != a1.Index) then (some false) else ((ref11_SameGots a0.Gots a1.Gots).bind fun t381 => (bif (!t381) then (some false) else (bif (((a0.Scans).length : Int) != ((a1.Scans).length : Int)) then (some false) else (loopO (ref11_SameReply_l0 a0 a1) (0:Int))))))))

noncomputable def ref11_SameRule (a0 : api_Rule) (a1 : api_Rule) : Option (Bool) :=
  (bif (a0.ID == a1.ID) then (bif (a0.From == a1.From) then (bif (a0.To == a1.To) then ((ref01_Same a0.Lo a1.Lo).bind fun t290 => (bif t290 then ((ref01_Same a0.Hi a1.Hi).bind fun t296 => (bif t296 then (bif (a0.Authority == a1.Authority) then (some (a0.Quota == a1.Quota)) else (some false)) else (some false))) else (some false))) else (some false)) else (some false)) else (some false))

noncomputable def law13_same_l0 (a0 : api_Command) (a1 : api_Command) (z477 : (Int)) : Option ((Int) ⊕ (Bool)) :=
  (bif (decide (z477 < ((a0.Parts).length : Int))) then ((geto a0.Parts z477).bind fun x487 => ((geto a1.Parts z477).bind fun x498 => (bif (x487.Shard != x498.Shard) then (inrO (some false)) else ((ref13_SameWrites x487.Writes x498.Writes).bind fun t510 => (bif (!t510) then (inrO (some false)) else (some (Sum.inl (IntKind.i64.wrap (z477 + (1:Int)))))))))) else (inrO (some true)))
noncomputable def law13_same (a0 : api_Command) (a1 : api_Command) : Option (Bool) :=
  (bif (a0.Kind != a1.Kind) then (some false) else (bif (!((a0.ID.Session == a1.ID.Session) && (a0.ID.Seq == a1.ID.Seq))) then (some false) else (bif (a0.Epoch != a1.Epoch) then (some false) else (bif (a0.Index != a1.Index) then (some false) else (bif (a0.E != a1.E) then (some false) else ((ref11_SameHold a0.Hold a1.Hold).bind fun t389 => (bif (!t389) then (some false) else ((ref13_SameWrites a0.Writes a1.Writes).bind fun t395 => (bif (!t395) then (some false) else ((ref11_SameReply a0.R a1.R).bind fun t401 => (bif (!t401) then (some false) else (bif (a0.Shards != a1.Shards) then (some false) else (bif (((a0.Parts).length : Int) != ((a1.Parts).length : Int)) then (some false) else ((ref11_SameRule a0.Rule a1.Rule).bind fun t409 => (bif (!t409) then (some false) else (bif (!(a0.On == a1.On)) then (some false) else (loopO (law13_same_l0 a0 a1) (0:Int))))))))))))))))))

noncomputable def law13_CommandLong_l1 (a0 : Int) (s : ((List api_Write) × Int)) : Option (((List api_Write) × Int) ⊕ ((List api_Write))) :=
  match s with | (z301, z304) => (bif (decide (z304 < (IntKind.i64.wrap ((30:Int) + (Int.tmod (IntKind.i64.wrap a0) (6:Int)))))) then (gd (room z301 ([({ At := (fOfInt z304), Del := false, Val := [] } : api_Write)])) (some (Sum.inl ((z301 ++ ([({ At := (fOfInt z304), Del := false, Val := [] } : api_Write)])), (IntKind.i64.wrap (z304 + (1:Int))))))) else (inrO (some z301)))
noncomputable def law13_CommandLong_j2 (s : ((List api_Write) × Bool)) : Option (Bool) :=
  match s with | (z356, z357) => ((ref13_Command ({ Kind := (3:Int), ID := ({ Session := (0:Int), Seq := (0:Int) } : api_ID), Epoch := (0:Int), Index := (0:Int), E := (0:Int), Hold := ({ ID := ({ Session := (0:Int), Seq := (0:Int) } : api_ID), Epoch := (0:Int), Gets := [], Scans := [], Puts := [], Data := [] } : api_Hold), Writes := z356, R := ({ E := (0:Int), Epoch := (0:Int), Index := (0:Int), Gots := [], Scans := [] } : api_Reply), Shards := (0:Int), Parts := [], Rule := ({ ID := (0:Int), From := (0:Int), To := (0:Int), Lo := (0:Nat), Hi := (0:Nat), Authority := (0:Int), Quota := (0:Int) } : api_Rule), On := false } : api_Command)).bind fun t374 => ((command_Decode t374).bind fun t384 => (bif ((t384.2 == (0:Int)) == z357) then (bif (!z357) then (some true) else ((law13_same ({ Kind := (3:Int), ID := ({ Session := (0:Int), Seq := (0:Int) } : api_ID), Epoch := (0:Int), Index := (0:Int), E := (0:Int), Hold := ({ ID := ({ Session := (0:Int), Seq := (0:Int) } : api_ID), Epoch := (0:Int), Gets := [], Scans := [], Puts := [], Data := [] } : api_Hold), Writes := z356, R := ({ E := (0:Int), Epoch := (0:Int), Index := (0:Int), Gots := [], Scans := [] } : api_Reply), Shards := (0:Int), Parts := [], Rule := ({ ID := (0:Int), From := (0:Int), To := (0:Int), Lo := (0:Nat), Hi := (0:Nat), Authority := (0:Int), Quota := (0:Int) } : api_Rule), On := false } : api_Command) t384.1).bind fun t440 => (some t440))) else (some false))))
noncomputable def law13_CommandLong_j0 (a1 : Int) (a0 : Int) (z330 : ((List api_Write))) : Option (Bool) :=
  (((bif ((Int.tmod a1 (2:Int)) == (1:Int)) then (gd (mkOK (IntKind.i64.wrap ((226:Int) + (IntKind.i64.wrap ((30:Int) + (Int.tmod (IntKind.i64.wrap a0) (6:Int)))))) (IntKind.i64.wrap ((226:Int) + (IntKind.i64.wrap ((30:Int) + (Int.tmod (IntKind.i64.wrap a0) (6:Int))))))) (some ([({ At := (0:Nat), Del := false, Val := (List.replicate (Int.toNat (IntKind.i64.wrap ((226:Int) + (IntKind.i64.wrap ((30:Int) + (Int.tmod (IntKind.i64.wrap a0) (6:Int))))))) (0:Int)) } : api_Write)], (decide ((IntKind.i64.wrap ((226:Int) + (IntKind.i64.wrap ((30:Int) + (Int.tmod (IntKind.i64.wrap a0) (6:Int)))))) ≤ (256:Int)))))) else (some (z330, (decide ((IntKind.i64.wrap ((30:Int) + (Int.tmod (IntKind.i64.wrap a0) (6:Int)))) ≤ (32:Int))))))).bind (law13_CommandLong_j2))
noncomputable def law13_CommandLong (a0 : Int) (a1 : Int) : Option (Bool) :=
  (law13_awake.bind fun t223 => (bif (!t223) then (some false) else (((loopO (law13_CommandLong_l1 a0) ([], (0:Int)))).bind (law13_CommandLong_j0 a1 a0))))

noncomputable def ref12_Tape_Next (a0 : ref12_Tape) (a1 : Int) : Option (Int × ref12_Tape) :=
  (bif (decide (a0.I ≥ ((a0.L).length : Int))) then (some ((0:Int), a0)) else ((geto a0.L (IntKind.i64.wrap ((IntKind.i64.wrap (a0.I + (1:Int))) - (1:Int)))).bind fun x37 => (gd (!(a1 == (0:Int))) (some ((Int.tmod (IntKind.i64.wrap x37) a1), ({ L := a0.L, I := (IntKind.i64.wrap (a0.I + (1:Int))) } : ref12_Tape))))))

noncomputable def ref12_Tape_Of (a0 : ref12_Tape) : Option (api_ID × ref12_Tape) :=
  ((ref12_Tape_Next a0 (4:Int)).bind fun t88 => ((ref12_Tape_Next t88.2 (4:Int)).bind fun t93 => (some (({ Session := (IntKind.u64.wrap t88.1), Seq := (IntKind.u64.wrap (IntKind.i64.wrap ((1:Int) + t93.1))) } : api_ID), t93.2))))

noncomputable def ref12_small (a0 : Int) : Option (Nat) :=
  ((geto ([(0:Nat), (4607182418800017408:Nat), (13830554455654793216:Nat), (4612811918334230528:Nat), (9094988921128908188:Nat), (18318360957983683996:Nat), (4602678819172646912:Nat), (4613937818241073152:Nat)]) (Int.tmod a0 (8:Int))).bind fun x116 => (some x116))

noncomputable def ref12_Tape_Float (a0 : ref12_Tape) : Option (Nat × ref12_Tape) :=
  ((ref12_Tape_Next a0 (8:Int)).bind fun t107 => ((ref12_small (IntKind.u8.wrap t107.1)).bind fun t112 => (some (t112, t107.2))))

noncomputable def ref12_Tape_Val_l0 (t504 : (Int × ref12_Tape)) (s : (ref12_Tape × (List Int) × Int)) : Option ((ref12_Tape × (List Int) × Int) ⊕ ((List Int) × ref12_Tape)) :=
  match s with | (z559, z560, z563) => (bif (decide (z563 < t504.1)) then ((ref12_Tape_Next z559 (26:Int)).bind fun t573 => (gd (room z560 ([(IntKind.u8.wrap (IntKind.i64.wrap ((97:Int) + t573.1)))])) (some (Sum.inl (t573.2, (z560 ++ ([(IntKind.u8.wrap (IntKind.i64.wrap ((97:Int) + t573.1)))])), (IntKind.i64.wrap (z563 + (1:Int)))))))) else (inrO (some (z560, z559))))
noncomputable def ref12_Tape_Val (a0 : ref12_Tape) : Option ((List Int) × ref12_Tape) :=
  ((ref12_Tape_Next a0 (4:Int)).bind fun t504 => (loopO (ref12_Tape_Val_l0 t504) (t504.2, [], (0:Int))))

noncomputable def ref12_Tape_Hold_l1 (t463 : (Int × ref12_Tape)) (s : ((List Nat) × ref12_Tape × Int)) : Option (((List Nat) × ref12_Tape × Int) ⊕ (ref12_Tape × (List Nat))) :=
  match s with | (z524, z527, z528) => (bif (decide (z528 < t463.1)) then ((ref12_Tape_Float z527).bind fun t538 => (gd (room z524 ([t538.1])) (some (Sum.inl ((z524 ++ ([t538.1])), t538.2, (IntKind.i64.wrap (z528 + (1:Int)))))))) else (inrO (some (z527, z524))))
noncomputable def ref12_Tape_Hold_l3 (t563 : (Int × ref12_Tape)) (s : ((List (Nat × Nat)) × ref12_Tape × Int)) : Option (((List (Nat × Nat)) × ref12_Tape × Int) ⊕ (ref12_Tape × (List (Nat × Nat)))) :=
  match s with | (z639, z642, z643) => (bif (decide (z643 < (IntKind.i64.wrap (Int.tdiv t563.1 (2:Int))))) then ((ref12_Tape_Float z642).bind fun t653 => ((ref12_Tape_Float t653.2).bind fun t658 => (gd (room z639 ([(t653.1, t658.1)])) (some (Sum.inl ((z639 ++ ([(t653.1, t658.1)])), t658.2, (IntKind.i64.wrap (z643 + (1:Int))))))))) else (inrO (some (z642, z639))))
noncomputable def ref12_Tape_Hold_l5 (t683 : (Int × ref12_Tape)) (s : ((List Nat) × ref12_Tape × Int)) : Option (((List Nat) × ref12_Tape × Int) ⊕ (ref12_Tape × (List Nat))) :=
  match s with | (z744, z747, z748) => (bif (decide (z748 < t683.1)) then ((ref12_Tape_Float z747).bind fun t758 => (gd (room z744 ([t758.1])) (some (Sum.inl ((z744 ++ ([t758.1])), t758.2, (IntKind.i64.wrap (z748 + (1:Int)))))))) else (inrO (some (z747, z744))))
noncomputable def ref12_Tape_Hold_j4 (t438 : (api_ID × ref12_Tape)) (t443 : (Int × ref12_Tape)) (z557 : (List Nat)) (z677 : (List (Nat × Nat))) (s : (ref12_Tape × (List Nat))) : Option (api_Hold × ref12_Tape) :=
  match s with | (z774, z777) => ((ref12_Tape_Next z774 (4:Int)).bind fun t783 => (bif (t783.1 == (0:Int)) then ((ref12_Tape_Val t783.2).bind fun t789 => (some (({ ID := t438.1, Epoch := (IntKind.u64.wrap (IntKind.i64.wrap ((1:Int) + t443.1))), Gets := z557, Scans := z677, Puts := z777, Data := t789.1 } : api_Hold), t789.2))) else (some (({ ID := t438.1, Epoch := (IntKind.u64.wrap (IntKind.i64.wrap ((1:Int) + t443.1))), Gets := z557, Scans := z677, Puts := z777, Data := [] } : api_Hold), t783.2))))
noncomputable def ref12_Tape_Hold_j2 (t438 : (api_ID × ref12_Tape)) (t443 : (Int × ref12_Tape)) (z557 : (List Nat)) (s : (ref12_Tape × (List (Nat × Nat)))) : Option (api_Hold × ref12_Tape) :=
  match s with | (z674, z677) => ((ref12_Tape_Next z674 (3:Int)).bind fun t683 => (((loopO (ref12_Tape_Hold_l5 t683) ([], t683.2, (0:Int)))).bind (ref12_Tape_Hold_j4 t438 t443 z557 z677)))
noncomputable def ref12_Tape_Hold_j0 (t438 : (api_ID × ref12_Tape)) (t443 : (Int × ref12_Tape)) (s : (ref12_Tape × (List Nat))) : Option (api_Hold × ref12_Tape) :=
  match s with | (z554, z557) => ((ref12_Tape_Next z554 (3:Int)).bind fun t563 => (((loopO (ref12_Tape_Hold_l3 t563) ([], t563.2, (0:Int)))).bind (ref12_Tape_Hold_j2 t438 t443 z557)))
noncomputable def ref12_Tape_Hold (a0 : ref12_Tape) : Option (api_Hold × ref12_Tape) :=
  ((ref12_Tape_Of a0).bind fun t438 => ((ref12_Tape_Next t438.2 (4:Int)).bind fun t443 => ((ref12_Tape_Next t443.2 (3:Int)).bind fun t463 => (((loopO (ref12_Tape_Hold_l1 t463) ([], t463.2, (0:Int)))).bind (ref12_Tape_Hold_j0 t438 t443)))))

noncomputable def ref13_OfWrites_j1 (z515 : (List api_Write)) (t529 : (Nat × ref12_Tape)) (t534 : (Int × ref12_Tape)) (z518 : Int) (s : (ref12_Tape × (List Int))) : Option ((ref12_Tape × (List api_Write) × Int) ⊕ ((List api_Write) × ref12_Tape)) :=
  match s with | (z558, z561) => (gd (room z515 ([({ At := t529.1, Del := (t534.1 == (0:Int)), Val := z561 } : api_Write)])) (some (Sum.inl (z558, (z515 ++ ([({ At := t529.1, Del := (t534.1 == (0:Int)), Val := z561 } : api_Write)])), (IntKind.i64.wrap (z518 + (1:Int)))))))
noncomputable def ref13_OfWrites_l0 (t348 : (Int × ref12_Tape)) (s : (ref12_Tape × (List api_Write) × Int)) : Option ((ref12_Tape × (List api_Write) × Int) ⊕ ((List api_Write) × ref12_Tape)) :=
  match s with | (z514, z515, z518) => (bif (decide (z518 < t348.1)) then ((ref12_Tape_Float z514).bind fun t529 => ((ref12_Tape_Next t529.2 (4:Int)).bind fun t534 => (((bif (!(t534.1 == (0:Int))) then ((ref12_Tape_Val t534.2).bind fun t549 => (some (t549.2, t549.1))) else (some (t534.2, [])))).bind (ref13_OfWrites_j1 z515 t529 t534 z518)))) else (inrO (some (z515, z514))))
noncomputable def ref13_OfWrites (a0 : ref12_Tape) : Option ((List api_Write) × ref12_Tape) :=
  ((ref12_Tape_Next a0 (3:Int)).bind fun t348 => (loopO (ref13_OfWrites_l0 t348) (t348.2, [], (0:Int))))

noncomputable def ref13_OfReply_l2 (t1352 : (Int × ref12_Tape)) (s : ((List api_Got) × ref12_Tape × Int)) : Option (((List api_Got) × ref12_Tape × Int) ⊕ (ref12_Tape × (List api_Got))) :=
  match s with | (z1449, z1452, z1453) => (bif (decide (z1453 < t1352.1)) then ((ref12_Tape_Next z1452 (2:Int)).bind fun t1464 => ((ref12_Tape_Val t1464.2).bind fun t1469 => (gd (room z1449 ([({ Has := (t1464.1 == (0:Int)), Val := t1469.1 } : api_Got)])) (some (Sum.inl ((z1449 ++ ([({ Has := (t1464.1 == (0:Int)), Val := t1469.1 } : api_Got)])), t1469.2, (IntKind.i64.wrap (z1453 + (1:Int))))))))) else (inrO (some (z1452, z1449))))
noncomputable def ref13_OfReply_l5 (t2009 : (Int × ref12_Tape)) (s : (ref12_Tape × Int × (List api_Pair))) : Option ((ref12_Tape × Int × (List api_Pair)) ⊕ (ref12_Tape × (List api_Pair))) :=
  match s with | (z2100, z2101, z2102) => (bif (decide (z2101 < t2009.1)) then ((ref12_Tape_Float z2100).bind fun t2115 => ((ref12_Tape_Val t2115.2).bind fun t2120 => (gd (room z2102 ([({ At := t2115.1, Val := t2120.1 } : api_Pair)])) (some (Sum.inl (t2120.2, (IntKind.i64.wrap (z2101 + (1:Int))), (z2102 ++ ([({ At := t2115.1, Val := t2120.1 } : api_Pair)])))))))) else (inrO (some (z2100, z2102))))
noncomputable def ref13_OfReply_j4 (z1993 : (List (List api_Pair))) (z1997 : Int) (s : (ref12_Tape × (List api_Pair))) : Option (((List (List api_Pair)) × ref12_Tape × Int) ⊕ (api_Reply × ref12_Tape)) :=
  match s with | (z2141, z2144) => (gd (room z1993 ([z2144])) (some (Sum.inl ((z1993 ++ ([z2144])), z2141, (IntKind.i64.wrap (z1997 + (1:Int)))))))
noncomputable def ref13_OfReply_l3 (t1503 : (Int × ref12_Tape)) (z1344 : Int) (z1345 : Int) (z1346 : Int) (z1495 : (List api_Got)) (s : ((List (List api_Pair)) × ref12_Tape × Int)) : Option (((List (List api_Pair)) × ref12_Tape × Int) ⊕ (api_Reply × ref12_Tape)) :=
  match s with | (z1993, z1996, z1997) => (bif (decide (z1997 < (IntKind.i64.wrap (Int.tdiv t1503.1 (2:Int))))) then ((ref12_Tape_Next z1996 (3:Int)).bind fun t2009 => (((loopO (ref13_OfReply_l5 t2009) (t2009.2, (0:Int), []))).bind (ref13_OfReply_j4 z1993 z1997))) else (inrO (some (({ E := z1344, Epoch := z1345, Index := z1346, Gots := z1495, Scans := z1993 } : api_Reply), z1996))))
noncomputable def ref13_OfReply_j1 (z1344 : Int) (z1345 : Int) (z1346 : Int) (s : (ref12_Tape × (List api_Got))) : Option (api_Reply × ref12_Tape) :=
  match s with | (z1492, z1495) => ((ref12_Tape_Next z1492 (3:Int)).bind fun t1503 => (loopO (ref13_OfReply_l3 t1503 z1344 z1345 z1346 z1495) ([], t1503.2, (0:Int))))
noncomputable def ref13_OfReply_j0 (s : (ref12_Tape × Int × Int × Int)) : Option (api_Reply × ref12_Tape) :=
  match s with | (z1341, z1344, z1345, z1346) => ((ref12_Tape_Next z1341 (3:Int)).bind fun t1352 => (((loopO (ref13_OfReply_l2 t1352) ([], t1352.2, (0:Int)))).bind (ref13_OfReply_j1 z1344 z1345 z1346)))
noncomputable def ref13_OfReply (a0 : ref12_Tape) : Option (api_Reply × ref12_Tape) :=
  ((((ref12_Tape_Next a0 (6:Int)).bind fun t1242 => ((geto ([(0:Int), (0:Int), (0:Int), (8:Int), (9:Int), (3:Int)]) t1242.1).bind fun x1247 => ((ref12_Tape_Next t1242.2 (4:Int)).bind fun t1252 => ((ref12_Tape_Next t1252.2 (9:Int)).bind fun t1257 => (some (t1257.2, x1247, (IntKind.u64.wrap t1252.1), (IntKind.u64.wrap t1257.1)))))))).bind (ref13_OfReply_j0))

noncomputable def ref13_OfRule (a0 : ref12_Tape) : Option (api_Rule × ref12_Tape) :=
  ((ref12_Tape_Next a0 (3:Int)).bind fun t362 => ((ref12_Tape_Next t362.2 (4:Int)).bind fun t367 => ((ref12_Tape_Next t367.2 (4:Int)).bind fun t372 => ((ref12_Tape_Float t372.2).bind fun t377 => ((ref12_Tape_Float t377.2).bind fun t382 => ((ref12_Tape_Next t382.2 (2:Int)).bind fun t387 => ((ref12_Tape_Next t387.2 (3:Int)).bind fun t392 => (some (({ ID := (IntKind.u64.wrap t362.1), From := t367.1, To := t372.1, Lo := t377.1, Hi := t382.1, Authority := (IntKind.u64.wrap t387.1), Quota := t392.1 } : api_Rule), t392.2)))))))))

noncomputable def ref13_OfCommand_l2 (t532 : (Int × ref12_Tape)) (s : ((List api_Part) × ref12_Tape × Int)) : Option (((List api_Part) × ref12_Tape × Int) ⊕ (ref12_Tape × (List api_Part))) :=
  match s with | (z614, z617, z618) => (bif (decide (z618 < t532.1)) then ((ref13_OfWrites z617).bind fun t629 => (gd (room z614 ([({ Shard := z618, Writes := t629.1 } : api_Part)])) (some (Sum.inl ((z614 ++ ([({ Shard := z618, Writes := t629.1 } : api_Part)])), t629.2, (IntKind.i64.wrap (z618 + (1:Int)))))))) else (inrO (some (z617, z614))))
noncomputable def ref13_OfCommand_j1 (t389 : (Int × ref12_Tape)) (z512 : Int) (t496 : (api_ID × ref12_Tape)) (t518 : (Int × ref12_Tape)) (t525 : (Int × ref12_Tape)) (s : (ref12_Tape × (List api_Part))) : Option (api_Command × ref12_Tape) :=
  match s with | (z652, z655) => ((ref13_OfReply z652).bind fun t663 => (some (({ Kind := (IntKind.u8.wrap (IntKind.i64.wrap ((1:Int) + t389.1))), ID := ({ Session := z512, Seq := t496.1.Seq } : api_ID), Epoch := (IntKind.u64.wrap (IntKind.i64.wrap ((1:Int) + t518.1))), Index := (0:Int), E := (0:Int), Hold := ({ ID := ({ Session := (0:Int), Seq := (0:Int) } : api_ID), Epoch := (0:Int), Gets := [], Scans := [], Puts := [], Data := [] } : api_Hold), Writes := [], R := t663.1, Shards := (IntKind.u64.wrap t525.1), Parts := z655, Rule := ({ ID := (0:Int), From := (0:Int), To := (0:Int), Lo := (0:Nat), Hi := (0:Nat), Authority := (0:Int), Quota := (0:Int) } : api_Rule), On := false } : api_Command), t663.2)))
noncomputable def ref13_OfCommand_j0 (t389 : (Int × ref12_Tape)) (t496 : (api_ID × ref12_Tape)) (s : (ref12_Tape × Int)) : Option (api_Command × ref12_Tape) :=
  match s with | (z511, z512) => ((ref12_Tape_Next z511 (4:Int)).bind fun t518 => ((ref12_Tape_Next t518.2 (4:Int)).bind fun t525 => ((ref12_Tape_Next t525.2 (3:Int)).bind fun t532 => (((loopO (ref13_OfCommand_l2 t532) ([], t532.2, (0:Int)))).bind (ref13_OfCommand_j1 t389 z512 t496 t518 t525)))))
noncomputable def ref13_OfCommand (a0 : ref12_Tape) : Option (api_Command × ref12_Tape) :=
  ((ref12_Tape_Next a0 (7:Int)).bind fun t389 => (bif ((IntKind.u8.wrap (IntKind.i64.wrap ((1:Int) + t389.1))) == (1:Int)) then ((ref12_Tape_Next t389.2 (4:Int)).bind fun t418 => (some (({ Kind := (IntKind.u8.wrap (IntKind.i64.wrap ((1:Int) + t389.1))), ID := ({ Session := (0:Int), Seq := (0:Int) } : api_ID), Epoch := (IntKind.u64.wrap (IntKind.i64.wrap ((1:Int) + t418.1))), Index := (0:Int), E := (0:Int), Hold := ({ ID := ({ Session := (0:Int), Seq := (0:Int) } : api_ID), Epoch := (0:Int), Gets := [], Scans := [], Puts := [], Data := [] } : api_Hold), Writes := [], R := ({ E := (0:Int), Epoch := (0:Int), Index := (0:Int), Gots := [], Scans := [] } : api_Reply), Shards := (0:Int), Parts := [], Rule := ({ ID := (0:Int), From := (0:Int), To := (0:Int), Lo := (0:Nat), Hi := (0:Nat), Authority := (0:Int), Quota := (0:Int) } : api_Rule), On := false } : api_Command), t418.2))) else (bif ((IntKind.u8.wrap (IntKind.i64.wrap ((1:Int) + t389.1))) == (2:Int)) then ((ref12_Tape_Hold t389.2).bind fun t428 => (some (({ Kind := (IntKind.u8.wrap (IntKind.i64.wrap ((1:Int) + t389.1))), ID := ({ Session := (0:Int), Seq := (0:Int) } : api_ID), Epoch := (0:Int), Index := (0:Int), E := (0:Int), Hold := t428.1, Writes := [], R := ({ E := (0:Int), Epoch := (0:Int), Index := (0:Int), Gots := [], Scans := [] } : api_Reply), Shards := (0:Int), Parts := [], Rule := ({ ID := (0:Int), From := (0:Int), To := (0:Int), Lo := (0:Nat), Hi := (0:Nat), Authority := (0:Int), Quota := (0:Int) } : api_Rule), On := false } : api_Command), t428.2))) else (bif ((IntKind.u8.wrap (IntKind.i64.wrap ((1:Int) + t389.1))) == (3:Int)) then ((ref12_Tape_Of t389.2).bind fun t446 => ((ref12_Tape_Next t446.2 (3:Int)).bind fun t458 => ((geto ([(0:Int), (0:Int), (8:Int)]) t458.1).bind fun x463 => ((ref12_Tape_Next t458.2 (4:Int)).bind fun t470 => ((ref12_Tape_Next t470.2 (20:Int)).bind fun t477 => ((ref13_OfWrites t477.2).bind fun t484 => (some (({ Kind := (IntKind.u8.wrap (IntKind.i64.wrap ((1:Int) + t389.1))), ID := t446.1, Epoch := (IntKind.u64.wrap (IntKind.i64.wrap ((1:Int) + t470.1))), Index := (IntKind.u64.wrap t477.1), E := x463, Hold := ({ ID := ({ Session := (0:Int), Seq := (0:Int) } : api_ID), Epoch := (0:Int), Gets := [], Scans := [], Puts := [], Data := [] } : api_Hold), Writes := t484.1, R := ({ E := (0:Int), Epoch := (0:Int), Index := (0:Int), Gots := [], Scans := [] } : api_Reply), Shards := (0:Int), Parts := [], Rule := ({ ID := (0:Int), From := (0:Int), To := (0:Int), Lo := (0:Nat), Hi := (0:Nat), Authority := (0:Int), Quota := (0:Int) } : api_Rule), On := false } : api_Command), t484.2)))))))) else (bif ((IntKind.u8.wrap (IntKind.i64.wrap ((1:Int) + t389.1))) == (4:Int)) then ((ref12_Tape_Of t389.2).bind fun t496 => ((((ref12_Tape_Next t496.2 (6:Int)).bind fun t503 => (bif (t503.1 == (0:Int)) then (some (t503.2, (IntKind.u64.wrap (t496.1.Session + (9223372036854775808:Int))))) else (some (t503.2, t496.1.Session))))).bind (ref13_OfCommand_j0 t389 t496))) else (bif ((IntKind.u8.wrap (IntKind.i64.wrap ((1:Int) + t389.1))) == (5:Int)) then ((ref12_Tape_Of t389.2).bind fun t677 => (some (({ Kind := (IntKind.u8.wrap (IntKind.i64.wrap ((1:Int) + t389.1))), ID := t677.1, Epoch := (0:Int), Index := (0:Int), E := (0:Int), Hold := ({ ID := ({ Session := (0:Int), Seq := (0:Int) } : api_ID), Epoch := (0:Int), Gets := [], Scans := [], Puts := [], Data := [] } : api_Hold), Writes := [], R := ({ E := (0:Int), Epoch := (0:Int), Index := (0:Int), Gots := [], Scans := [] } : api_Reply), Shards := (0:Int), Parts := [], Rule := ({ ID := (0:Int), From := (0:Int), To := (0:Int), Lo := (0:Nat), Hi := (0:Nat), Authority := (0:Int), Quota := (0:Int) } : api_Rule), On := false } : api_Command), t677.2))) else (bif ((IntKind.u8.wrap (IntKind.i64.wrap ((1:Int) + t389.1))) == (6:Int)) then ((ref13_OfRule t389.2).bind fun t687 => ((ref12_Tape_Next t687.2 (3:Int)).bind fun t694 => (some (({ Kind := (IntKind.u8.wrap (IntKind.i64.wrap ((1:Int) + t389.1))), ID := ({ Session := (0:Int), Seq := (0:Int) } : api_ID), Epoch := (0:Int), Index := (0:Int), E := (0:Int), Hold := ({ ID := ({ Session := (0:Int), Seq := (0:Int) } : api_ID), Epoch := (0:Int), Gets := [], Scans := [], Puts := [], Data := [] } : api_Hold), Writes := [], R := ({ E := (0:Int), Epoch := (0:Int), Index := (0:Int), Gots := [], Scans := [] } : api_Reply), Shards := (0:Int), Parts := [], Rule := t687.1, On := (decide (t694.1 > (0:Int))) } : api_Command), t694.2)))) else (bif ((IntKind.u8.wrap (IntKind.i64.wrap ((1:Int) + t389.1))) == (7:Int)) then ((ref12_Tape_Of t389.2).bind fun t704 => ((ref12_Tape_Next t704.2 (4:Int)).bind fun t711 => ((ref13_OfRule t711.2).bind fun t718 => ((ref13_OfWrites t718.2).bind fun t725 => ((ref13_OfReply t725.2).bind fun t734 => (some (({ Kind := (IntKind.u8.wrap (IntKind.i64.wrap ((1:Int) + t389.1))), ID := t704.1, Epoch := (IntKind.u64.wrap (IntKind.i64.wrap ((1:Int) + t711.1))), Index := (0:Int), E := (0:Int), Hold := ({ ID := ({ Session := (0:Int), Seq := (0:Int) } : api_ID), Epoch := (0:Int), Gets := [], Scans := [], Puts := [], Data := [] } : api_Hold), Writes := t725.1, R := t734.1, Shards := (0:Int), Parts := [], Rule := t718.1, On := false } : api_Command), t734.2))))))) else (some (({ Kind := (IntKind.u8.wrap (IntKind.i64.wrap ((1:Int) + t389.1))), ID := ({ Session := (0:Int), Seq := (0:Int) } : api_ID), Epoch := (0:Int), Index := (0:Int), E := (0:Int), Hold := ({ ID := ({ Session := (0:Int), Seq := (0:Int) } : api_ID), Epoch := (0:Int), Gets := [], Scans := [], Puts := [], Data := [] } : api_Hold), Writes := [], R := ({ E := (0:Int), Epoch := (0:Int), Index := (0:Int), Gots := [], Scans := [] } : api_Reply), Shards := (0:Int), Parts := [], Rule := ({ ID := (0:Int), From := (0:Int), To := (0:Int), Lo := (0:Nat), Hi := (0:Nat), Authority := (0:Int), Quota := (0:Int) } : api_Rule), On := false } : api_Command), t389.2))))))))))

noncomputable def law13_CommandApart (a0 : (List Int)) (a1 : (List Int)) : Option (Bool) :=
  (law13_awake.bind fun t195 => (bif (!t195) then (law13_awake.bind fun t201 => (some t201)) else (bif (decide (((a0).length : Int) > (100:Int))) then (law13_awake.bind fun t207 => (some t207)) else (bif (decide (((a1).length : Int) > (100:Int))) then (law13_awake.bind fun t213 => (some t213)) else ((ref13_OfCommand ({ L := a0, I := (0:Int) } : ref12_Tape)).bind fun t230 => ((ref13_OfCommand ({ L := a1, I := (0:Int) } : ref12_Tape)).bind fun t266 => ((command_Encode t230.1).bind fun t318 => ((command_Encode t266.1).bind fun t341 => ((law13_same t230.1 t266.1).bind fun t380 => (some ((sEq (toStr t318) (toStr t341)) == t380)))))))))))

noncomputable def law13_CommandBytes_l0 (s : (ref12_Tape × Int)) : Option ((ref12_Tape × Int) ⊕ (Bool)) :=
  match s with | (z874, z875) => (bif (decide (z875 < (6:Int))) then ((ref13_OfCommand z874).bind fun t886 => ((command_Encode t886.1).bind fun t938 => ((command_Decode t938).bind fun t948 => ((ref13_Command t886.1).bind fun t1000 => (bif (!(sEq (toStr t938) (toStr t1000))) then (inrO (some false)) else (bif (t948.2 != (0:Int)) then (inrO (some false)) else ((law13_same t886.1 t948.1).bind fun t1041 => (bif (!t1041) then (inrO (some false)) else (some (Sum.inl (t886.2, (IntKind.i64.wrap (z875 + (1:Int)))))))))))))) else (inrO (some true)))
noncomputable def law13_CommandBytes (a0 : (List Int)) : Option (Bool) :=
  (law13_awake.bind fun t525 => (bif (!t525) then (law13_awake.bind fun t531 => (some t531)) else (bif (decide (((a0).length : Int) > (300:Int))) then (law13_awake.bind fun t537 => (some t537)) else (loopO (law13_CommandBytes_l0) (({ L := a0, I := (0:Int) } : ref12_Tape), (0:Int))))))
end Go.Proofs.Ytijcfglomdfglaa
