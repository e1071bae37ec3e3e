/- The models of the Go functions: plain Lean, no memory. -/
import Derived.Test.YtldfdainhdiffaaMailApartGv
set_option linter.unusedVariables false
set_option linter.unusedSimpArgs false
set_option maxRecDepth 100000
set_option maxHeartbeats 4000000
namespace Go.Proofs.Ytldfdainhdiffaa
open Go Go.V
structure api_Entry where
  Index : Int
  Term : Int
  Kind : Int
  Data : (List Int)

structure api_Snap where
  Index : Int
  Term : Int
  Voters : Int
  Data : (List Int)

structure api_Message where
  Kind : Int
  From : Int
  To : Int
  Term : Int
  Index : Int
  LogTerm : Int
  Commit : Int
  OK : Bool
  Entries : (List api_Entry)
  S : api_Snap

structure api_ID where
  Session : Int
  Seq : Int

structure api_Hold where
  ID : api_ID
  Epoch : Int
  Gets : (List Nat)
  Scans : (List (Nat × Nat))
  Puts : (List Nat)
  Data : (List Int)

structure api_Got where
  Has : Bool
  Val : (List Int)

structure api_Pair where
  At : Nat
  Val : (List Int)

structure api_Reply where
  E : Int
  Epoch : Int
  Index : Int
  Gots : (List api_Got)
  Scans : (List (List api_Pair))

structure api_Write where
  At : Nat
  Del : Bool
  Val : (List Int)

structure api_Part where
  Shard : Int
  Writes : (List api_Write)

structure api_Rule where
  ID : Int
  From : Int
  To : Int
  Lo : Nat
  Hi : Nat
  Authority : Int
  Quota : Int

structure api_Command where
  Kind : Int
  ID : api_ID
  Epoch : Int
  Index : Int
  E : Int
  Hold : api_Hold
  Writes : (List api_Write)
  R : api_Reply
  Shards : Int
  Parts : (List api_Part)
  Rule : api_Rule
  On : Bool

structure api_Mail where
  Kind : Int
  M : api_Message
  H : api_Hold
  ID : api_ID
  R : api_Reply
  C : api_Command

structure octet_Writer where
  p : (List Int)

structure ref12_Tape where
  L : (List Int)
  I : Int

structure octet_Reader where
  p : (List Int)
  bad : Bool

def zero_api_Snap : api_Snap := { Index := (0:Int), Term := (0:Int), Voters := (0:Int), Data := [] }

def zero_api_Message : api_Message := { Kind := (0:Int), From := (0:Int), To := (0:Int), Term := (0:Int), Index := (0:Int), LogTerm := (0:Int), Commit := (0:Int), OK := false, Entries := [], S := zero_api_Snap }

def zero_api_Hold : api_Hold := { ID := ({ Session := (0:Int), Seq := (0:Int) } : api_ID), Epoch := (0:Int), Gets := [], Scans := [], Puts := [], Data := [] }

def zero_api_Reply : api_Reply := { E := (0:Int), Epoch := (0:Int), Index := (0:Int), Gots := [], Scans := [] }

def zero_api_Rule : api_Rule := { ID := (0:Int), From := (0:Int), To := (0:Int), Lo := (0:Nat), Hi := (0:Nat), Authority := (0:Int), Quota := (0:Int) }

def zero_api_Command : api_Command := { Kind := (0:Int), ID := ({ Session := (0:Int), Seq := (0:Int) } : api_ID), Epoch := (0:Int), Index := (0:Int), E := (0:Int), Hold := zero_api_Hold, Writes := [], R := zero_api_Reply, Shards := (0:Int), Parts := [], Rule := zero_api_Rule, On := false }

def zero_api_Mail : api_Mail := { Kind := (0:Int), M := zero_api_Message, H := zero_api_Hold, ID := ({ Session := (0:Int), Seq := (0:Int) } : api_ID), R := zero_api_Reply, C := zero_api_Command }

noncomputable def octet_Writer_lay (a0 : octet_Writer) (a1 : (List Int)) : Option (octet_Writer) :=
  (gd (room a0.p a1) (some ({ p := (a0.p ++ a1) } : octet_Writer)))

noncomputable def octet_Writer_Num_l0 (a2 : Int) (a1 : Int) (s : (octet_Writer × Int)) : Option ((octet_Writer × Int) ⊕ (octet_Writer)) :=
  match s with | (z161, z162) => (bif (decide (z162 < a2)) then (gd (decide ((0:Int) ≤ (IntKind.i64.wrap ((8:Int) * z162)))) ((octet_Writer_lay z161 ([(IntKind.u8.wrap (iShr .u64 a1 (IntKind.i64.wrap ((8:Int) * z162))))])).bind fun t180 => (some (Sum.inl (t180, (IntKind.i64.wrap (z162 + (1:Int)))))))) else (inrO (some z161)))
noncomputable def octet_Writer_Num (a0 : octet_Writer) (a1 : Int) (a2 : Int) : Option (octet_Writer) :=
  (loopO (octet_Writer_Num_l0 a2 a1) (a0, (0:Int)))

noncomputable def octet_Writer_Flag (a0 : octet_Writer) (a1 : Bool) : Option (octet_Writer) :=
  (bif a1 then ((octet_Writer_Num a0 (1:Int) (1:Int)).bind fun t103 => (some t103)) else ((octet_Writer_Num a0 (0:Int) (1:Int)).bind fun t108 => (some t108)))

noncomputable def octet_Writer_Bytes (a0 : octet_Writer) (a1 : (List Int)) : Option (octet_Writer) :=
  ((octet_Writer_Num a0 (IntKind.u64.wrap ((a1).length : Int)) (4:Int)).bind fun t168 => ((octet_Writer_lay t168 a1).bind fun t173 => (some t173)))

noncomputable def mail_message_l1 (a1 : api_Message) (s : (octet_Writer × Int)) : Option ((octet_Writer × Int) ⊕ (octet_Writer)) :=
  match s with | (z427, z428) => (bif (decide (z428 < ((a1.Entries).length : Int))) then ((geto a1.Entries z428).bind fun x438 => ((octet_Writer_Num z427 x438.Index (8:Int)).bind fun t457 => ((octet_Writer_Num t457 x438.Term (8:Int)).bind fun t462 => ((octet_Writer_Num t462 (IntKind.u64.wrap x438.Kind) (1:Int)).bind fun t467 => ((octet_Writer_Bytes t467 x438.Data).bind fun t472 => (some (Sum.inl (t472, (IntKind.i64.wrap (z428 + (1:Int))))))))))) else (inrO (some z427)))
noncomputable def mail_message_j0 (a1 : api_Message) (z477 : (octet_Writer)) : Option (octet_Writer) :=
  ((octet_Writer_Num z477 a1.S.Index (8:Int)).bind fun t483 => ((octet_Writer_Num t483 a1.S.Term (8:Int)).bind fun t488 => ((octet_Writer_Num t488 a1.S.Voters (8:Int)).bind fun t493 => ((octet_Writer_Bytes t493 a1.S.Data).bind fun t498 => (some t498)))))
noncomputable def mail_message (a0 : octet_Writer) (a1 : api_Message) : Option (octet_Writer) :=
  ((octet_Writer_Num a0 (IntKind.u64.wrap a1.Kind) (1:Int)).bind fun t300 => ((octet_Writer_Num t300 (IntKind.u64.wrap a1.From) (1:Int)).bind fun t305 => ((octet_Writer_Num t305 (IntKind.u64.wrap a1.To) (1:Int)).bind fun t310 => ((octet_Writer_Num t310 a1.Term (8:Int)).bind fun t315 => ((octet_Writer_Num t315 a1.Index (8:Int)).bind fun t320 => ((octet_Writer_Num t320 a1.LogTerm (8:Int)).bind fun t325 => ((octet_Writer_Num t325 a1.Commit (8:Int)).bind fun t330 => ((octet_Writer_Flag t330 a1.OK).bind fun t335 => ((octet_Writer_Num t335 (IntKind.u64.wrap ((a1.Entries).length : Int)) (4:Int)).bind fun t340 => (((loopO (mail_message_l1 a1) (t340, (0:Int)))).bind (mail_message_j0 a1)))))))))))

noncomputable def octet_Writer_Done (a0 : octet_Writer) : Option ((List Int)) :=
  (some a0.p)

noncomputable def math_IsNaN (a0 : Nat) : Option (Bool) :=
  (some (fNe a0 a0))

noncomputable def number_Rank (a0 : Nat) : Option (Int) :=
  ((math_IsNaN a0).bind fun t144 => (bif t144 then (some (18446744073709551615:Int)) else (bif ((iShr .u64 (Int.ofNat a0) (63:Int)) == (1:Int)) then (some (bXor .u64 ((18446744073709551615):Int) (Int.ofNat a0))) else (some (bOr .u64 (Int.ofNat a0) (9223372036854775808:Int))))))

noncomputable def locks_Lay_l1 (a1 : api_Hold) (s : (octet_Writer × Int)) : Option ((octet_Writer × Int) ⊕ (octet_Writer)) :=
  match s with | (z459, z460) => (bif (decide (z460 < ((a1.Gets).length : Int))) then ((geto a1.Gets z460).bind fun x470 => ((number_Rank x470).bind fun t475 => ((octet_Writer_Num z459 t475 (8:Int)).bind fun t480 => (some (Sum.inl (t480, (IntKind.i64.wrap (z460 + (1:Int))))))))) else (inrO (some z459)))
noncomputable def locks_Lay_l3 (a1 : api_Hold) (s : (octet_Writer × Int)) : Option ((octet_Writer × Int) ⊕ (octet_Writer)) :=
  match s with | (z564, z565) => (bif (decide (z565 < ((a1.Scans).length : Int))) then ((geto a1.Scans z565).bind fun x575 => ((number_Rank x575.1).bind fun t587 => ((octet_Writer_Num z564 t587 (8:Int)).bind fun t592 => ((number_Rank x575.2).bind fun t597 => ((octet_Writer_Num t592 t597 (8:Int)).bind fun t602 => (some (Sum.inl (t602, (IntKind.i64.wrap (z565 + (1:Int))))))))))) else (inrO (some z564)))
noncomputable def locks_Lay_l5 (a1 : api_Hold) (s : (octet_Writer × Int)) : Option ((octet_Writer × Int) ⊕ (octet_Writer)) :=
  match s with | (z652, z653) => (bif (decide (z653 < ((a1.Puts).length : Int))) then ((geto a1.Puts z653).bind fun x663 => ((number_Rank x663).bind fun t668 => ((octet_Writer_Num z652 t668 (8:Int)).bind fun t673 => (some (Sum.inl (t673, (IntKind.i64.wrap (z653 + (1:Int))))))))) else (inrO (some z652)))
noncomputable def locks_Lay_j4 (a1 : api_Hold) (z678 : (octet_Writer)) : Option (octet_Writer) :=
  ((octet_Writer_Bytes z678 a1.Data).bind fun t684 => (some t684))
noncomputable def locks_Lay_j2 (a1 : api_Hold) (z607 : (octet_Writer)) : Option (octet_Writer) :=
  ((octet_Writer_Num z607 (IntKind.u64.wrap ((a1.Puts).length : Int)) (4:Int)).bind fun t613 => (((loopO (locks_Lay_l5 a1) (t613, (0:Int)))).bind (locks_Lay_j4 a1)))
noncomputable def locks_Lay_j0 (a1 : api_Hold) (z485 : (octet_Writer)) : Option (octet_Writer) :=
  ((octet_Writer_Num z485 (IntKind.u64.wrap ((a1.Scans).length : Int)) (4:Int)).bind fun t491 => (((loopO (locks_Lay_l3 a1) (t491, (0:Int)))).bind (locks_Lay_j2 a1)))
noncomputable def locks_Lay (a0 : octet_Writer) (a1 : api_Hold) : Option (octet_Writer) :=
  ((octet_Writer_Num a0 a1.ID.Session (8:Int)).bind fun t405 => ((octet_Writer_Num t405 a1.ID.Seq (8:Int)).bind fun t410 => ((octet_Writer_Num t410 a1.Epoch (8:Int)).bind fun t415 => ((octet_Writer_Num t415 (IntKind.u64.wrap ((a1.Gets).length : Int)) (4:Int)).bind fun t420 => (((loopO (locks_Lay_l1 a1) (t420, (0:Int)))).bind (locks_Lay_j0 a1))))))

noncomputable def command_LayReply_l1 (a1 : api_Reply) (s : (octet_Writer × Int)) : Option ((octet_Writer × Int) ⊕ (octet_Writer)) :=
  match s with | (z764, z765) => (bif (decide (z765 < ((a1.Gots).length : Int))) then ((geto a1.Gots z765).bind fun x775 => ((octet_Writer_Flag z764 x775.Has).bind fun t794 => ((octet_Writer_Bytes t794 x775.Val).bind fun t799 => (some (Sum.inl (t799, (IntKind.i64.wrap (z765 + (1:Int))))))))) else (inrO (some z764)))
noncomputable def command_LayReply_l3 (x1096 : (List api_Pair)) (z1086 : Int) (s : (octet_Writer × Int)) : Option ((octet_Writer × Int) ⊕ ((octet_Writer × Int) ⊕ (octet_Writer))) :=
  match s with | (z1184, z1185) => (bif (decide (z1185 < ((x1096).length : Int))) then ((geto x1096 z1185).bind fun x1195 => ((number_Rank x1195.At).bind fun t1214 => ((octet_Writer_Num z1184 t1214 (8:Int)).bind fun t1219 => ((octet_Writer_Bytes t1219 x1195.Val).bind fun t1224 => (some (Sum.inl (t1224, (IntKind.i64.wrap (z1185 + (1:Int)))))))))) else (inrO (some (Sum.inl (z1184, (IntKind.i64.wrap (z1086 + (1:Int))))))))
noncomputable def command_LayReply_l2 (a1 : api_Reply) (s : (octet_Writer × Int)) : Option ((octet_Writer × Int) ⊕ (octet_Writer)) :=
  match s with | (z1085, z1086) => (bif (decide (z1086 < ((a1.Scans).length : Int))) then ((geto a1.Scans z1086).bind fun x1096 => ((octet_Writer_Num z1085 (IntKind.u64.wrap ((x1096).length : Int)) (4:Int)).bind fun t1107 => (loopO (command_LayReply_l3 x1096 z1086) (t1107, (0:Int))))) else (inrO (some z1085)))
noncomputable def command_LayReply_j0 (a1 : api_Reply) (z804 : (octet_Writer)) : Option (octet_Writer) :=
  ((octet_Writer_Num z804 (IntKind.u64.wrap ((a1.Scans).length : Int)) (4:Int)).bind fun t810 => (loopO (command_LayReply_l2 a1) (t810, (0:Int))))
noncomputable def command_LayReply (a0 : octet_Writer) (a1 : api_Reply) : Option (octet_Writer) :=
  ((octet_Writer_Num a0 (IntKind.u64.wrap a1.E) (1:Int)).bind fun t682 => ((octet_Writer_Num t682 a1.Epoch (8:Int)).bind fun t687 => ((octet_Writer_Num t687 a1.Index (8:Int)).bind fun t692 => ((octet_Writer_Num t692 (IntKind.u64.wrap ((a1.Gots).length : Int)) (4:Int)).bind fun t697 => (((loopO (command_LayReply_l1 a1) (t697, (0:Int)))).bind (command_LayReply_j0 a1))))))

noncomputable def command_writes_l0 (a1 : (List api_Write)) (s : (octet_Writer × Int)) : Option ((octet_Writer × Int) ⊕ (octet_Writer)) :=
  match s with | (z450, z451) => (bif (decide (z451 < ((a1).length : Int))) then ((geto a1 z451).bind fun x461 => ((number_Rank x461.At).bind fun t480 => ((octet_Writer_Num z450 t480 (8:Int)).bind fun t485 => ((octet_Writer_Flag t485 x461.Del).bind fun t490 => ((octet_Writer_Bytes t490 x461.Val).bind fun t495 => (some (Sum.inl (t495, (IntKind.i64.wrap (z451 + (1:Int))))))))))) else (inrO (some z450)))
noncomputable def command_writes (a0 : octet_Writer) (a1 : (List api_Write)) : Option (octet_Writer) :=
  ((octet_Writer_Num a0 (IntKind.u64.wrap ((a1).length : Int)) (4:Int)).bind fun t363 => (loopO (command_writes_l0 a1) (t363, (0:Int))))

noncomputable def command_layRule (a0 : octet_Writer) (a1 : api_Rule) : Option (octet_Writer) :=
  ((octet_Writer_Num a0 a1.ID (8:Int)).bind fun t466 => ((octet_Writer_Num t466 (IntKind.u64.wrap a1.From) (1:Int)).bind fun t471 => ((octet_Writer_Num t471 (IntKind.u64.wrap a1.To) (1:Int)).bind fun t476 => ((number_Rank a1.Lo).bind fun t481 => ((octet_Writer_Num t476 t481 (8:Int)).bind fun t486 => ((number_Rank a1.Hi).bind fun t491 => ((octet_Writer_Num t486 t491 (8:Int)).bind fun t496 => ((octet_Writer_Num t496 a1.Authority (8:Int)).bind fun t501 => ((octet_Writer_Num t501 (IntKind.u64.wrap a1.Quota) (4:Int)).bind fun t506 => (some t506))))))))))

noncomputable def command_Encode_l1 (a0 : api_Command) (s : (octet_Writer × Int)) : Option ((octet_Writer × Int) ⊕ (octet_Writer)) :=
  match s with | (z671, z672) => (bif (decide (z672 < ((a0.Parts).length : Int))) then ((geto a0.Parts z672).bind fun x682 => ((octet_Writer_Num z671 (IntKind.u64.wrap x682.Shard) (1:Int)).bind fun t701 => ((command_writes t701 x682.Writes).bind fun t706 => (some (Sum.inl (t706, (IntKind.i64.wrap (z672 + (1:Int))))))))) else (inrO (some z671)))
noncomputable def command_Encode_j0 (a0 : api_Command) (z711 : (octet_Writer)) : Option ((List Int)) :=
  ((command_LayReply z711 a0.R).bind fun t717 => ((octet_Writer_Done t717).bind fun t722 => (some t722)))
noncomputable def command_Encode (a0 : api_Command) : Option ((List Int)) :=
  ((octet_Writer_Num ({ p := [] } : octet_Writer) (IntKind.u64.wrap a0.Kind) (1:Int)).bind fun t504 => (bif (a0.Kind == (1:Int)) then ((octet_Writer_Num t504 a0.Epoch (8:Int)).bind fun t510 => ((octet_Writer_Done t510).bind fun t515 => (some t515))) else (bif (a0.Kind == (2:Int)) then ((locks_Lay t504 a0.Hold).bind fun t523 => ((octet_Writer_Done t523).bind fun t528 => (some t528))) else (bif (a0.Kind == (3:Int)) then (((octet_Writer_Num t504 a0.ID.Session (8:Int)).bind fun t536 => ((octet_Writer_Num t536 a0.ID.Seq (8:Int)).bind fun t541 => (some t541))).bind fun z546 => ((octet_Writer_Num z546 (IntKind.u64.wrap a0.E) (1:Int)).bind fun t551 => ((octet_Writer_Num t551 a0.Epoch (8:Int)).bind fun t556 => ((octet_Writer_Num t556 a0.Index (8:Int)).bind fun t561 => ((command_writes t561 a0.Writes).bind fun t566 => ((octet_Writer_Done t566).bind fun t571 => (some t571))))))) else (bif (a0.Kind == (4:Int)) then (((octet_Writer_Num t504 a0.ID.Session (8:Int)).bind fun t579 => ((octet_Writer_Num t579 a0.ID.Seq (8:Int)).bind fun t584 => (some t584))).bind fun z589 => ((octet_Writer_Num z589 a0.Epoch (8:Int)).bind fun t594 => ((octet_Writer_Num t594 a0.Shards (2:Int)).bind fun t599 => ((octet_Writer_Num t599 (IntKind.u64.wrap ((a0.Parts).length : Int)) (4:Int)).bind fun t604 => (((loopO (command_Encode_l1 a0) (t604, (0:Int)))).bind (command_Encode_j0 a0)))))) else (bif (a0.Kind == (5:Int)) then (((octet_Writer_Num t504 a0.ID.Session (8:Int)).bind fun t730 => ((octet_Writer_Num t730 a0.ID.Seq (8:Int)).bind fun t735 => (some t735))).bind fun z740 => ((octet_Writer_Done z740).bind fun t745 => (some t745))) else (bif (a0.Kind == (6:Int)) then ((command_layRule t504 a0.Rule).bind fun t753 => ((octet_Writer_Flag t753 a0.On).bind fun t758 => ((octet_Writer_Done t758).bind fun t763 => (some t763)))) else (bif (a0.Kind == (7:Int)) then (((octet_Writer_Num t504 a0.ID.Session (8:Int)).bind fun t771 => ((octet_Writer_Num t771 a0.ID.Seq (8:Int)).bind fun t776 => (some t776))).bind fun z781 => ((octet_Writer_Num z781 a0.Epoch (8:Int)).bind fun t786 => ((command_layRule t786 a0.Rule).bind fun t791 => ((command_writes t791 a0.Writes).bind fun t796 => ((command_LayReply t796 a0.R).bind fun t801 => ((octet_Writer_Done t801).bind fun t806 => (some t806))))))) else ((octet_Writer_Done t504).bind fun t813 => (some t813))))))))))

noncomputable def mail_Encode_j0 (t207 : (octet_Writer)) (a0 : api_Mail) (z226 : (Bool)) : Option ((List Int)) :=
  (bif z226 then ((locks_Lay t207 a0.H).bind fun t233 => ((octet_Writer_Done t233).bind fun t238 => (some t238))) else (bif (a0.Kind == (3:Int)) then ((locks_Lay t207 a0.H).bind fun t246 => ((command_LayReply t246 a0.R).bind fun t251 => ((octet_Writer_Done t251).bind fun t256 => (some t256)))) else (bif (a0.Kind == (4:Int)) then ((command_Encode a0.C).bind fun t264 => ((octet_Writer_Bytes t207 t264).bind fun t273 => ((octet_Writer_Done t273).bind fun t278 => (some t278)))) else (bif (a0.Kind == (5:Int)) then ((octet_Writer_Num t207 a0.ID.Session (8:Int)).bind fun t286 => ((octet_Writer_Num t286 a0.ID.Seq (8:Int)).bind fun t291 => ((octet_Writer_Done t291).bind fun t296 => (some t296)))) else ((octet_Writer_Done t207).bind fun t303 => (some t303))))))
noncomputable def mail_Encode (a0 : api_Mail) : Option ((List Int)) :=
  ((octet_Writer_Num ({ p := [] } : octet_Writer) (IntKind.u64.wrap a0.Kind) (1:Int)).bind fun t207 => (bif (a0.Kind == (1:Int)) then ((mail_message t207 a0.M).bind fun t213 => ((octet_Writer_Done t213).bind fun t218 => (some t218))) else (((bif (a0.Kind == (2:Int)) then (some (a0.Kind == (2:Int))) else (some (a0.Kind == (6:Int))))).bind (mail_Encode_j0 t207 a0))))

noncomputable def law17_awake : Option (Bool) :=
  ((mail_Encode ({ Kind := (5:Int), M := zero_api_Message, H := zero_api_Hold, ID := ({ Session := (1:Int), Seq := (2:Int) } : api_ID), R := zero_api_Reply, C := zero_api_Command } : api_Mail)).bind fun t129 => (bif (sEq (toStr t129) (ByteArray.mk #[5, 1, 0, 0, 0, 0, 0, 0, 0, 2, 0, 0, 0, 0, 0, 0, 0])) then (some true) else (some false)))

noncomputable def ref12_Tape_Next (a0 : ref12_Tape) (a1 : Int) : Option (Int × ref12_Tape) :=
  (bif (decide (a0.I ≥ ((a0.L).length : Int))) then (some ((0:Int), a0)) else ((geto a0.L (IntKind.i64.wrap ((IntKind.i64.wrap (a0.I + (1:Int))) - (1:Int)))).bind fun x76 => (gd (!(a1 == (0:Int))) (some ((Int.tmod (IntKind.i64.wrap x76) a1), ({ L := a0.L, I := (IntKind.i64.wrap (a0.I + (1:Int))) } : ref12_Tape))))))

noncomputable def ref12_Tape_Val_l0 (t238 : (Int × ref12_Tape)) (s : (ref12_Tape × (List Int) × Int)) : Option ((ref12_Tape × (List Int) × Int) ⊕ ((List Int) × ref12_Tape)) :=
  match s with | (z293, z294, z297) => (bif (decide (z297 < t238.1)) then ((ref12_Tape_Next z293 (26:Int)).bind fun t307 => (gd (room z294 ([(IntKind.u8.wrap (IntKind.i64.wrap ((97:Int) + t307.1)))])) (some (Sum.inl (t307.2, (z294 ++ ([(IntKind.u8.wrap (IntKind.i64.wrap ((97:Int) + t307.1)))])), (IntKind.i64.wrap (z297 + (1:Int)))))))) else (inrO (some (z294, z293))))
noncomputable def ref12_Tape_Val (a0 : ref12_Tape) : Option ((List Int) × ref12_Tape) :=
  ((ref12_Tape_Next a0 (4:Int)).bind fun t238 => (loopO (ref12_Tape_Val_l0 t238) (t238.2, [], (0:Int))))

noncomputable def ref12_Tape_Of (a0 : ref12_Tape) : Option (api_ID × ref12_Tape) :=
  ((ref12_Tape_Next a0 (4:Int)).bind fun t383 => ((ref12_Tape_Next t383.2 (4:Int)).bind fun t388 => (some (({ Session := (IntKind.u64.wrap t383.1), Seq := (IntKind.u64.wrap (IntKind.i64.wrap ((1:Int) + t388.1))) } : api_ID), t388.2))))

noncomputable def ref12_small (a0 : Int) : Option (Nat) :=
  ((geto ([(0:Nat), (4607182418800017408:Nat), (13830554455654793216:Nat), (4612811918334230528:Nat), (9094988921128908188:Nat), (18318360957983683996:Nat), (4602678819172646912:Nat), (4613937818241073152:Nat)]) (Int.tmod a0 (8:Int))).bind fun x411 => (some x411))

noncomputable def ref12_Tape_Float (a0 : ref12_Tape) : Option (Nat × ref12_Tape) :=
  ((ref12_Tape_Next a0 (8:Int)).bind fun t402 => ((ref12_small (IntKind.u8.wrap t402.1)).bind fun t407 => (some (t407, t402.2))))

noncomputable def ref12_Tape_Hold_l1 (t758 : (Int × ref12_Tape)) (s : ((List Nat) × ref12_Tape × Int)) : Option (((List Nat) × ref12_Tape × Int) ⊕ (ref12_Tape × (List Nat))) :=
  match s with | (z819, z822, z823) => (bif (decide (z823 < t758.1)) then ((ref12_Tape_Float z822).bind fun t833 => (gd (room z819 ([t833.1])) (some (Sum.inl ((z819 ++ ([t833.1])), t833.2, (IntKind.i64.wrap (z823 + (1:Int)))))))) else (inrO (some (z822, z819))))
noncomputable def ref12_Tape_Hold_l3 (t858 : (Int × ref12_Tape)) (s : ((List (Nat × Nat)) × ref12_Tape × Int)) : Option (((List (Nat × Nat)) × ref12_Tape × Int) ⊕ (ref12_Tape × (List (Nat × Nat)))) :=
  match s with | (z934, z937, z938) => (bif (decide (z938 < (IntKind.i64.wrap (Int.tdiv t858.1 (2:Int))))) then ((ref12_Tape_Float z937).bind fun t948 => ((ref12_Tape_Float t948.2).bind fun t953 => (gd (room z934 ([(t948.1, t953.1)])) (some (Sum.inl ((z934 ++ ([(t948.1, t953.1)])), t953.2, (IntKind.i64.wrap (z938 + (1:Int))))))))) else (inrO (some (z937, z934))))
noncomputable def ref12_Tape_Hold_l5 (t978 : (Int × ref12_Tape)) (s : ((List Nat) × ref12_Tape × Int)) : Option (((List Nat) × ref12_Tape × Int) ⊕ (ref12_Tape × (List Nat))) :=
  match s with | (z1039, z1042, z1043) => (bif (decide (z1043 < t978.1)) then ((ref12_Tape_Float z1042).bind fun t1053 => (gd (room z1039 ([t1053.1])) (some (Sum.inl ((z1039 ++ ([t1053.1])), t1053.2, (IntKind.i64.wrap (z1043 + (1:Int)))))))) else (inrO (some (z1042, z1039))))
noncomputable def ref12_Tape_Hold_j4 (t733 : (api_ID × ref12_Tape)) (t738 : (Int × ref12_Tape)) (z852 : (List Nat)) (z972 : (List (Nat × Nat))) (s : (ref12_Tape × (List Nat))) : Option (api_Hold × ref12_Tape) :=
  match s with | (z1069, z1072) => ((ref12_Tape_Next z1069 (4:Int)).bind fun t1078 => (bif (t1078.1 == (0:Int)) then ((ref12_Tape_Val t1078.2).bind fun t1084 => (some (({ ID := t733.1, Epoch := (IntKind.u64.wrap (IntKind.i64.wrap ((1:Int) + t738.1))), Gets := z852, Scans := z972, Puts := z1072, Data := t1084.1 } : api_Hold), t1084.2))) else (some (({ ID := t733.1, Epoch := (IntKind.u64.wrap (IntKind.i64.wrap ((1:Int) + t738.1))), Gets := z852, Scans := z972, Puts := z1072, Data := [] } : api_Hold), t1078.2))))
noncomputable def ref12_Tape_Hold_j2 (t733 : (api_ID × ref12_Tape)) (t738 : (Int × ref12_Tape)) (z852 : (List Nat)) (s : (ref12_Tape × (List (Nat × Nat)))) : Option (api_Hold × ref12_Tape) :=
  match s with | (z969, z972) => ((ref12_Tape_Next z969 (3:Int)).bind fun t978 => (((loopO (ref12_Tape_Hold_l5 t978) ([], t978.2, (0:Int)))).bind (ref12_Tape_Hold_j4 t733 t738 z852 z972)))
noncomputable def ref12_Tape_Hold_j0 (t733 : (api_ID × ref12_Tape)) (t738 : (Int × ref12_Tape)) (s : (ref12_Tape × (List Nat))) : Option (api_Hold × ref12_Tape) :=
  match s with | (z849, z852) => ((ref12_Tape_Next z849 (3:Int)).bind fun t858 => (((loopO (ref12_Tape_Hold_l3 t858) ([], t858.2, (0:Int)))).bind (ref12_Tape_Hold_j2 t733 t738 z852)))
noncomputable def ref12_Tape_Hold (a0 : ref12_Tape) : Option (api_Hold × ref12_Tape) :=
  ((ref12_Tape_Of a0).bind fun t733 => ((ref12_Tape_Next t733.2 (4:Int)).bind fun t738 => ((ref12_Tape_Next t738.2 (3:Int)).bind fun t758 => (((loopO (ref12_Tape_Hold_l1 t758) ([], t758.2, (0:Int)))).bind (ref12_Tape_Hold_j0 t733 t738)))))

noncomputable def ref13_OfReply_l2 (t1445 : (Int × ref12_Tape)) (s : ((List api_Got) × ref12_Tape × Int)) : Option (((List api_Got) × ref12_Tape × Int) ⊕ (ref12_Tape × (List api_Got))) :=
  match s with | (z1542, z1545, z1546) => (bif (decide (z1546 < t1445.1)) then ((ref12_Tape_Next z1545 (2:Int)).bind fun t1557 => ((ref12_Tape_Val t1557.2).bind fun t1562 => (gd (room z1542 ([({ Has := (t1557.1 == (0:Int)), Val := t1562.1 } : api_Got)])) (some (Sum.inl ((z1542 ++ ([({ Has := (t1557.1 == (0:Int)), Val := t1562.1 } : api_Got)])), t1562.2, (IntKind.i64.wrap (z1546 + (1:Int))))))))) else (inrO (some (z1545, z1542))))
noncomputable def ref13_OfReply_l5 (t2102 : (Int × ref12_Tape)) (s : (ref12_Tape × Int × (List api_Pair))) : Option ((ref12_Tape × Int × (List api_Pair)) ⊕ (ref12_Tape × (List api_Pair))) :=
  match s with | (z2193, z2194, z2195) => (bif (decide (z2194 < t2102.1)) then ((ref12_Tape_Float z2193).bind fun t2208 => ((ref12_Tape_Val t2208.2).bind fun t2213 => (gd (room z2195 ([({ At := t2208.1, Val := t2213.1 } : api_Pair)])) (some (Sum.inl (t2213.2, (IntKind.i64.wrap (z2194 + (1:Int))), (z2195 ++ ([({ At := t2208.1, Val := t2213.1 } : api_Pair)])))))))) else (inrO (some (z2193, z2195))))
noncomputable def ref13_OfReply_j4 (z2086 : (List (List api_Pair))) (z2090 : Int) (s : (ref12_Tape × (List api_Pair))) : Option (((List (List api_Pair)) × ref12_Tape × Int) ⊕ (api_Reply × ref12_Tape)) :=
  match s with | (z2234, z2237) => (gd (room z2086 ([z2237])) (some (Sum.inl ((z2086 ++ ([z2237])), z2234, (IntKind.i64.wrap (z2090 + (1:Int)))))))
noncomputable def ref13_OfReply_l3 (t1596 : (Int × ref12_Tape)) (z1437 : Int) (z1438 : Int) (z1439 : Int) (z1588 : (List api_Got)) (s : ((List (List api_Pair)) × ref12_Tape × Int)) : Option (((List (List api_Pair)) × ref12_Tape × Int) ⊕ (api_Reply × ref12_Tape)) :=
  match s with | (z2086, z2089, z2090) => (bif (decide (z2090 < (IntKind.i64.wrap (Int.tdiv t1596.1 (2:Int))))) then ((ref12_Tape_Next z2089 (3:Int)).bind fun t2102 => (((loopO (ref13_OfReply_l5 t2102) (t2102.2, (0:Int), []))).bind (ref13_OfReply_j4 z2086 z2090))) else (inrO (some (({ E := z1437, Epoch := z1438, Index := z1439, Gots := z1588, Scans := z2086 } : api_Reply), z2089))))
noncomputable def ref13_OfReply_j1 (z1437 : Int) (z1438 : Int) (z1439 : Int) (s : (ref12_Tape × (List api_Got))) : Option (api_Reply × ref12_Tape) :=
  match s with | (z1585, z1588) => ((ref12_Tape_Next z1585 (3:Int)).bind fun t1596 => (loopO (ref13_OfReply_l3 t1596 z1437 z1438 z1439 z1588) ([], t1596.2, (0:Int))))
noncomputable def ref13_OfReply_j0 (s : (ref12_Tape × Int × Int × Int)) : Option (api_Reply × ref12_Tape) :=
  match s with | (z1434, z1437, z1438, z1439) => ((ref12_Tape_Next z1434 (3:Int)).bind fun t1445 => (((loopO (ref13_OfReply_l2 t1445) ([], t1445.2, (0:Int)))).bind (ref13_OfReply_j1 z1437 z1438 z1439)))
noncomputable def ref13_OfReply (a0 : ref12_Tape) : Option (api_Reply × ref12_Tape) :=
  ((((ref12_Tape_Next a0 (6:Int)).bind fun t1335 => ((geto ([(0:Int), (0:Int), (0:Int), (8:Int), (9:Int), (3:Int)]) t1335.1).bind fun x1340 => ((ref12_Tape_Next t1335.2 (4:Int)).bind fun t1345 => ((ref12_Tape_Next t1345.2 (9:Int)).bind fun t1350 => (some (t1350.2, x1340, (IntKind.u64.wrap t1345.1), (IntKind.u64.wrap t1350.1)))))))).bind (ref13_OfReply_j0))

noncomputable def ref13_OfWrites_j1 (z821 : (List api_Write)) (t835 : (Nat × ref12_Tape)) (t840 : (Int × ref12_Tape)) (z824 : Int) (s : (ref12_Tape × (List Int))) : Option ((ref12_Tape × (List api_Write) × Int) ⊕ ((List api_Write) × ref12_Tape)) :=
  match s with | (z864, z867) => (gd (room z821 ([({ At := t835.1, Del := (t840.1 == (0:Int)), Val := z867 } : api_Write)])) (some (Sum.inl (z864, (z821 ++ ([({ At := t835.1, Del := (t840.1 == (0:Int)), Val := z867 } : api_Write)])), (IntKind.i64.wrap (z824 + (1:Int)))))))
noncomputable def ref13_OfWrites_l0 (t654 : (Int × ref12_Tape)) (s : (ref12_Tape × (List api_Write) × Int)) : Option ((ref12_Tape × (List api_Write) × Int) ⊕ ((List api_Write) × ref12_Tape)) :=
  match s with | (z820, z821, z824) => (bif (decide (z824 < t654.1)) then ((ref12_Tape_Float z820).bind fun t835 => ((ref12_Tape_Next t835.2 (4:Int)).bind fun t840 => (((bif (!(t840.1 == (0:Int))) then ((ref12_Tape_Val t840.2).bind fun t855 => (some (t855.2, t855.1))) else (some (t840.2, [])))).bind (ref13_OfWrites_j1 z821 t835 t840 z824)))) else (inrO (some (z821, z820))))
noncomputable def ref13_OfWrites (a0 : ref12_Tape) : Option ((List api_Write) × ref12_Tape) :=
  ((ref12_Tape_Next a0 (3:Int)).bind fun t654 => (loopO (ref13_OfWrites_l0 t654) (t654.2, [], (0:Int))))

noncomputable def law17_make1_l1 (t558 : (Int × ref12_Tape)) (s : ((List api_Entry) × ref12_Tape × Int)) : Option (((List api_Entry) × ref12_Tape × Int) ⊕ (ref12_Tape × (List api_Entry))) :=
  match s with | (z670, z673, z674) => (bif (decide (z674 < t558.1)) then ((ref12_Tape_Next z673 (9:Int)).bind fun t685 => ((ref12_Tape_Next t685.2 (2:Int)).bind fun t690 => ((ref12_Tape_Val t690.2).bind fun t695 => (gd (room z670 ([({ Index := (IntKind.u64.wrap z674), Term := (IntKind.u64.wrap t685.1), Kind := (IntKind.u8.wrap t690.1), Data := t695.1 } : api_Entry)])) (some (Sum.inl ((z670 ++ ([({ Index := (IntKind.u64.wrap z674), Term := (IntKind.u64.wrap t685.1), Kind := (IntKind.u8.wrap t690.1), Data := t695.1 } : api_Entry)])), t695.2, (IntKind.i64.wrap (z674 + (1:Int)))))))))) else (inrO (some (z673, z670))))
noncomputable def law17_make1_j0 (t469 : (Int × ref12_Tape)) (t514 : (Int × ref12_Tape)) (t519 : (Int × ref12_Tape)) (t524 : (Int × ref12_Tape)) (t529 : (Int × ref12_Tape)) (t534 : (Int × ref12_Tape)) (t539 : (Int × ref12_Tape)) (t544 : (Int × ref12_Tape)) (t549 : (Int × ref12_Tape)) (s : (ref12_Tape × (List api_Entry))) : Option (api_Mail × ref12_Tape) :=
  match s with | (z718, z721) => ((ref12_Tape_Next z718 (9:Int)).bind fun t729 => ((ref12_Tape_Next t729.2 (9:Int)).bind fun t734 => ((ref12_Tape_Next t734.2 (9:Int)).bind fun t739 => ((ref12_Tape_Val t739.2).bind fun t744 => (some (({ Kind := (IntKind.u8.wrap (IntKind.i64.wrap ((1:Int) + t469.1))), M := ({ Kind := (IntKind.u8.wrap (IntKind.i64.wrap ((1:Int) + t514.1))), From := t519.1, To := t524.1, Term := (IntKind.u64.wrap t529.1), Index := (IntKind.u64.wrap t534.1), LogTerm := (IntKind.u64.wrap t539.1), Commit := (IntKind.u64.wrap t544.1), OK := (t549.1 == (0:Int)), Entries := z721, S := ({ Index := (IntKind.u64.wrap t729.1), Term := (IntKind.u64.wrap t734.1), Voters := (IntKind.u64.wrap t739.1), Data := t744.1 } : api_Snap) } : api_Message), H := zero_api_Hold, ID := ({ Session := (0:Int), Seq := (0:Int) } : api_ID), R := zero_api_Reply, C := zero_api_Command } : api_Mail), t744.2))))))
noncomputable def law17_make1_j2 (t469 : (Int × ref12_Tape)) (z757 : (Bool)) : Option (api_Mail × ref12_Tape) :=
  (bif z757 then ((ref12_Tape_Hold t469.2).bind fun t764 => (some (({ Kind := (IntKind.u8.wrap (IntKind.i64.wrap ((1:Int) + t469.1))), M := zero_api_Message, H := t764.1, ID := ({ Session := (0:Int), Seq := (0:Int) } : api_ID), R := zero_api_Reply, C := zero_api_Command } : api_Mail), t764.2))) else (bif ((IntKind.u8.wrap (IntKind.i64.wrap ((1:Int) + t469.1))) == (3:Int)) then ((ref12_Tape_Hold t469.2).bind fun t782 => ((ref13_OfReply t782.2).bind fun t797 => (some (({ Kind := (IntKind.u8.wrap (IntKind.i64.wrap ((1:Int) + t469.1))), M := zero_api_Message, H := t782.1, ID := ({ Session := (0:Int), Seq := (0:Int) } : api_ID), R := t797.1, C := zero_api_Command } : api_Mail), t797.2)))) else (bif ((IntKind.u8.wrap (IntKind.i64.wrap ((1:Int) + t469.1))) == (4:Int)) then ((ref12_Tape_Of t469.2).bind fun t811 => ((ref12_Tape_Next t811.2 (9:Int)).bind fun t816 => ((ref12_Tape_Next t816.2 (9:Int)).bind fun t821 => ((ref12_Tape_Next t821.2 (9:Int)).bind fun t826 => ((ref13_OfWrites t826.2).bind fun t831 => (some (({ Kind := (IntKind.u8.wrap (IntKind.i64.wrap ((1:Int) + t469.1))), M := zero_api_Message, H := zero_api_Hold, ID := ({ Session := (0:Int), Seq := (0:Int) } : api_ID), R := zero_api_Reply, C := ({ Kind := (3:Int), ID := t811.1, Epoch := (IntKind.u64.wrap t821.1), Index := (IntKind.u64.wrap t826.1), E := t816.1, Hold := zero_api_Hold, Writes := t831.1, R := zero_api_Reply, Shards := (0:Int), Parts := [], Rule := zero_api_Rule, On := false } : api_Command) } : api_Mail), t831.2))))))) else (bif ((IntKind.u8.wrap (IntKind.i64.wrap ((1:Int) + t469.1))) == (5:Int)) then ((ref12_Tape_Of t469.2).bind fun t851 => (some (({ Kind := (IntKind.u8.wrap (IntKind.i64.wrap ((1:Int) + t469.1))), M := zero_api_Message, H := zero_api_Hold, ID := t851.1, R := zero_api_Reply, C := zero_api_Command } : api_Mail), t851.2))) else (some (({ Kind := (IntKind.u8.wrap (IntKind.i64.wrap ((1:Int) + t469.1))), M := zero_api_Message, H := zero_api_Hold, ID := ({ Session := (0:Int), Seq := (0:Int) } : api_ID), R := zero_api_Reply, C := zero_api_Command } : api_Mail), t469.2))))))
noncomputable def law17_make1 (a0 : ref12_Tape) : Option (api_Mail × ref12_Tape) :=
  ((ref12_Tape_Next a0 (6:Int)).bind fun t469 => (bif ((IntKind.u8.wrap (IntKind.i64.wrap ((1:Int) + t469.1))) == (1:Int)) then ((ref12_Tape_Next t469.2 (7:Int)).bind fun t514 => ((ref12_Tape_Next t514.2 (5:Int)).bind fun t519 => ((ref12_Tape_Next t519.2 (5:Int)).bind fun t524 => ((ref12_Tape_Next t524.2 (250:Int)).bind fun t529 => ((ref12_Tape_Next t529.2 (250:Int)).bind fun t534 => ((ref12_Tape_Next t534.2 (9:Int)).bind fun t539 => ((ref12_Tape_Next t539.2 (99:Int)).bind fun t544 => ((ref12_Tape_Next t544.2 (2:Int)).bind fun t549 => ((ref12_Tape_Next t549.2 (4:Int)).bind fun t558 => (((loopO (law17_make1_l1 t558) ([], t558.2, (0:Int)))).bind (law17_make1_j0 t469 t514 t519 t524 t529 t534 t539 t544 t549))))))))))) else (((bif ((IntKind.u8.wrap (IntKind.i64.wrap ((1:Int) + t469.1))) == (2:Int)) then (some ((IntKind.u8.wrap (IntKind.i64.wrap ((1:Int) + t469.1))) == (2:Int))) else (some ((IntKind.u8.wrap (IntKind.i64.wrap ((1:Int) + t469.1))) == (6:Int))))).bind (law17_make1_j2 t469))))

noncomputable def ref02_Num_l0 (a2 : Int) (s : (Int × (List Int) × Int)) : Option ((Int × (List Int) × Int) ⊕ ((List Int))) :=
  match s with | (z306, z307, z310) => (bif (decide (z310 < a2)) then (gd (room z307 ([(IntKind.u8.wrap (bAnd .u64 z306 (255:Int)))])) (some (Sum.inl ((iShr .u64 z306 (8:Int)), (z307 ++ ([(IntKind.u8.wrap (bAnd .u64 z306 (255:Int)))])), (IntKind.i64.wrap (z310 + (1:Int))))))) else (inrO (some z307)))
noncomputable def ref02_Num (a0 : (List Int)) (a1 : Int) (a2 : Int) : Option ((List Int)) :=
  (gd (room ([] : List Int) a0) (loopO (ref02_Num_l0 a2) (a1, a0, (0:Int))))

noncomputable def ref02_Flag (a0 : (List Int)) (a1 : Bool) : Option ((List Int)) :=
  (bif a1 then ((ref02_Num a0 (1:Int) (1:Int)).bind fun t319 => (some t319)) else ((ref02_Num a0 (0:Int) (1:Int)).bind fun t326 => (some t326)))

noncomputable def ref02_Bytes (a0 : (List Int)) (a1 : (List Int)) : Option ((List Int)) :=
  ((ref02_Num a0 (IntKind.u64.wrap ((a1).length : Int)) (4:Int)).bind fun t372 => (gd (room t372 a1) (some (t372 ++ a1))))

noncomputable def ref13_Message_l1 (a1 : api_Message) (s : ((List Int) × Int)) : Option (((List Int) × Int) ⊕ ((List Int))) :=
  match s with | (z749, z752) => (bif (decide (z752 < ((a1.Entries).length : Int))) then ((geto a1.Entries z752).bind fun x762 => ((ref02_Num z749 x762.Index (8:Int)).bind fun t783 => ((ref02_Num t783 x762.Term (8:Int)).bind fun t792 => ((ref02_Num t792 (IntKind.u64.wrap x762.Kind) (1:Int)).bind fun t801 => ((ref02_Bytes t801 x762.Data).bind fun t810 => (some (Sum.inl (t810, (IntKind.i64.wrap (z752 + (1:Int))))))))))) else (inrO (some z749)))
noncomputable def ref13_Message_j0 (a1 : api_Message) (z819 : ((List Int))) : Option ((List Int)) :=
  ((ref02_Num z819 a1.S.Index (8:Int)).bind fun t827 => ((ref02_Num t827 a1.S.Term (8:Int)).bind fun t836 => ((ref02_Num t836 a1.S.Voters (8:Int)).bind fun t845 => ((ref02_Bytes t845 a1.S.Data).bind fun t854 => (some t854)))))
noncomputable def ref13_Message (a0 : (List Int)) (a1 : api_Message) : Option ((List Int)) :=
  ((ref02_Num a0 (IntKind.u64.wrap a1.Kind) (1:Int)).bind fun t554 => ((ref02_Num t554 (IntKind.u64.wrap a1.From) (1:Int)).bind fun t563 => ((ref02_Num t563 (IntKind.u64.wrap a1.To) (1:Int)).bind fun t572 => ((ref02_Num t572 a1.Term (8:Int)).bind fun t581 => ((ref02_Num t581 a1.Index (8:Int)).bind fun t590 => ((ref02_Num t590 a1.LogTerm (8:Int)).bind fun t599 => ((ref02_Num t599 a1.Commit (8:Int)).bind fun t608 => ((ref02_Flag t608 a1.OK).bind fun t617 => ((ref02_Num t617 (IntKind.u64.wrap ((a1.Entries).length : Int)) (4:Int)).bind fun t626 => (((loopO (ref13_Message_l1 a1) (t626, (0:Int)))).bind (ref13_Message_j0 a1)))))))))))

noncomputable def ref12_ID (a0 : (List Int)) (a1 : api_ID) : Option ((List Int)) :=
  ((ref02_Num a0 a1.Session (8:Int)).bind fun t287 => ((ref02_Num t287 a1.Seq (8:Int)).bind fun t296 => (some t296)))

noncomputable def ref01_Rank (a0 : Nat) : Option (Int) :=
  (bif (fNe a0 a0) then (some (18446744073709551615:Int)) else (bif (decide ((Int.ofNat a0) ≥ (9223372036854775808:Int))) then (some (IntKind.u64.wrap ((18446744073709551615:Int) - (Int.ofNat a0)))) else (some (IntKind.u64.wrap ((Int.ofNat a0) + (9223372036854775808:Int))))))

noncomputable def ref12_Hold_l1 (a1 : api_Hold) (s : ((List Int) × Int)) : Option (((List Int) × Int) ⊕ ((List Int))) :=
  match s with | (z683, z686) => (bif (decide (z686 < ((a1.Gets).length : Int))) then ((geto a1.Gets z686).bind fun x696 => ((ref01_Rank x696).bind fun t701 => ((ref02_Num z683 t701 (8:Int)).bind fun t708 => (some (Sum.inl (t708, (IntKind.i64.wrap (z686 + (1:Int))))))))) else (inrO (some z683)))
noncomputable def ref12_Hold_l3 (a1 : api_Hold) (s : ((List Int) × Int)) : Option (((List Int) × Int) ⊕ ((List Int))) :=
  match s with | (z804, z807) => (bif (decide (z807 < ((a1.Scans).length : Int))) then ((geto a1.Scans z807).bind fun x817 => ((ref01_Rank x817.1).bind fun t822 => ((ref02_Num z804 t822 (8:Int)).bind fun t829 => ((ref01_Rank x817.2).bind fun t836 => ((ref02_Num t829 t836 (8:Int)).bind fun t843 => (some (Sum.inl (t843, (IntKind.i64.wrap (z807 + (1:Int))))))))))) else (inrO (some z804)))
noncomputable def ref12_Hold_l5 (a1 : api_Hold) (s : ((List Int) × Int)) : Option (((List Int) × Int) ⊕ ((List Int))) :=
  match s with | (z911, z914) => (bif (decide (z914 < ((a1.Puts).length : Int))) then ((geto a1.Puts z914).bind fun x924 => ((ref01_Rank x924).bind fun t929 => ((ref02_Num z911 t929 (8:Int)).bind fun t936 => (some (Sum.inl (t936, (IntKind.i64.wrap (z914 + (1:Int))))))))) else (inrO (some z911)))
noncomputable def ref12_Hold_j4 (a1 : api_Hold) (z945 : ((List Int))) : Option ((List Int)) :=
  ((ref02_Bytes z945 a1.Data).bind fun t953 => (some t953))
noncomputable def ref12_Hold_j2 (a1 : api_Hold) (z852 : ((List Int))) : Option ((List Int)) :=
  ((ref02_Num z852 (IntKind.u64.wrap ((a1.Puts).length : Int)) (4:Int)).bind fun t860 => (((loopO (ref12_Hold_l5 a1) (t860, (0:Int)))).bind (ref12_Hold_j4 a1)))
noncomputable def ref12_Hold_j0 (a1 : api_Hold) (z717 : ((List Int))) : Option ((List Int)) :=
  ((ref02_Num z717 (IntKind.u64.wrap ((a1.Scans).length : Int)) (4:Int)).bind fun t725 => (((loopO (ref12_Hold_l3 a1) (t725, (0:Int)))).bind (ref12_Hold_j2 a1)))
noncomputable def ref12_Hold (a0 : (List Int)) (a1 : api_Hold) : Option ((List Int)) :=
  ((ref12_ID a0 a1.ID).bind fun t614 => ((ref02_Num t614 a1.Epoch (8:Int)).bind fun t623 => ((ref02_Num t623 (IntKind.u64.wrap ((a1.Gets).length : Int)) (4:Int)).bind fun t632 => (((loopO (ref12_Hold_l1 a1) (t632, (0:Int)))).bind (ref12_Hold_j0 a1)))))

noncomputable def ref13_Reply_l1 (a1 : api_Reply) (s : ((List Int) × Int)) : Option (((List Int) × Int) ⊕ ((List Int))) :=
  match s with | (z1025, z1028) => (bif (decide (z1028 < ((a1.Gots).length : Int))) then ((geto a1.Gots z1028).bind fun x1038 => ((ref02_Flag z1025 x1038.Has).bind fun t1051 => ((ref02_Bytes t1051 x1038.Val).bind fun t1060 => (some (Sum.inl (t1060, (IntKind.i64.wrap (z1028 + (1:Int))))))))) else (inrO (some z1025)))
noncomputable def ref13_Reply_l3 (x1421 : (List api_Pair)) (z1411 : Int) (s : ((List Int) × Int)) : Option (((List Int) × Int) ⊕ (((List Int) × Int) ⊕ ((List Int)))) :=
  match s with | (z1527, z1530) => (bif (decide (z1530 < ((x1421).length : Int))) then ((geto x1421 z1530).bind fun x1546 => ((ref01_Rank x1546.At).bind fun t1557 => ((ref02_Num z1527 t1557 (8:Int)).bind fun t1564 => ((ref02_Bytes t1564 x1546.Val).bind fun t1573 => (some (Sum.inl (t1573, (IntKind.i64.wrap (z1530 + (1:Int)))))))))) else (inrO (some (Sum.inl (z1527, (IntKind.i64.wrap (z1411 + (1:Int))))))))
noncomputable def ref13_Reply_l2 (a1 : api_Reply) (s : ((List Int) × Int)) : Option (((List Int) × Int) ⊕ ((List Int))) :=
  match s with | (z1408, z1411) => (bif (decide (z1411 < ((a1.Scans).length : Int))) then ((geto a1.Scans z1411).bind fun x1421 => ((ref02_Num z1408 (IntKind.u64.wrap ((x1421).length : Int)) (4:Int)).bind fun t1434 => (loopO (ref13_Reply_l3 x1421 z1411) (t1434, (0:Int))))) else (inrO (some z1408)))
noncomputable def ref13_Reply_j0 (a1 : api_Reply) (z1069 : ((List Int))) : Option ((List Int)) :=
  ((ref02_Num z1069 (IntKind.u64.wrap ((a1.Scans).length : Int)) (4:Int)).bind fun t1077 => (loopO (ref13_Reply_l2 a1) (t1077, (0:Int))))
noncomputable def ref13_Reply (a0 : (List Int)) (a1 : api_Reply) : Option ((List Int)) :=
  ((ref02_Num a0 (IntKind.u64.wrap a1.E) (1:Int)).bind fun t927 => ((ref02_Num t927 a1.Epoch (8:Int)).bind fun t936 => ((ref02_Num t936 a1.Index (8:Int)).bind fun t945 => ((ref02_Num t945 (IntKind.u64.wrap ((a1.Gots).length : Int)) (4:Int)).bind fun t954 => (((loopO (ref13_Reply_l1 a1) (t954, (0:Int)))).bind (ref13_Reply_j0 a1))))))

noncomputable def ref13_Writes_l0 (a1 : (List api_Write)) (s : ((List Int) × Int)) : Option (((List Int) × Int) ⊕ ((List Int))) :=
  match s with | (z597, z600) => (bif (decide (z600 < ((a1).length : Int))) then ((geto a1 z600).bind fun x610 => ((ref01_Rank x610.At).bind fun t621 => ((ref02_Num z597 t621 (8:Int)).bind fun t628 => ((ref02_Flag t628 x610.Del).bind fun t637 => ((ref02_Bytes t637 x610.Val).bind fun t646 => (some (Sum.inl (t646, (IntKind.i64.wrap (z600 + (1:Int))))))))))) else (inrO (some z597)))
noncomputable def ref13_Writes (a0 : (List Int)) (a1 : (List api_Write)) : Option ((List Int)) :=
  ((ref02_Num a0 (IntKind.u64.wrap ((a1).length : Int)) (4:Int)).bind fun t498 => (loopO (ref13_Writes_l0 a1) (t498, (0:Int))))

noncomputable def ref13_Rule (a0 : (List Int)) (a1 : api_Rule) : Option ((List Int)) :=
  ((ref02_Num a0 a1.ID (8:Int)).bind fun t620 => ((ref02_Num t620 (IntKind.u64.wrap a1.From) (1:Int)).bind fun t629 => ((ref02_Num t629 (IntKind.u64.wrap a1.To) (1:Int)).bind fun t638 => ((ref01_Rank a1.Lo).bind fun t645 => ((ref02_Num t638 t645 (8:Int)).bind fun t652 => ((ref01_Rank a1.Hi).bind fun t659 => ((ref02_Num t652 t659 (8:Int)).bind fun t666 => ((ref02_Num t666 a1.Authority (8:Int)).bind fun t675 => ((ref02_Num t675 (IntKind.u64.wrap a1.Quota) (4:Int)).bind fun t684 => (some t684))))))))))

noncomputable def ref13_Command_l1 (a0 : api_Command) (s : ((List Int) × Int)) : Option (((List Int) × Int) ⊕ ((List Int))) :=
  match s with | (z789, z792) => (bif (decide (z792 < ((a0.Parts).length : Int))) then ((geto a0.Parts z792).bind fun x802 => ((ref02_Num z789 (IntKind.u64.wrap x802.Shard) (1:Int)).bind fun t815 => ((ref13_Writes t815 x802.Writes).bind fun t824 => (some (Sum.inl (t824, (IntKind.i64.wrap (z792 + (1:Int))))))))) else (inrO (some z789)))
noncomputable def ref13_Command_j0 (a0 : api_Command) (z833 : ((List Int))) : Option ((List Int)) :=
  ((ref13_Reply z833 a0.R).bind fun t841 => (some t841))
noncomputable def ref13_Command (a0 : api_Command) : Option ((List Int)) :=
  ((ref02_Num ([]) (IntKind.u64.wrap a0.Kind) (1:Int)).bind fun t615 => (bif (a0.Kind == (1:Int)) then ((ref02_Num t615 a0.Epoch (8:Int)).bind fun t625 => (some t625)) else (bif (a0.Kind == (2:Int)) then ((ref12_Hold t615 a0.Hold).bind fun t635 => (some t635)) else (bif (a0.Kind == (3:Int)) then ((ref12_ID t615 a0.ID).bind fun t645 => ((ref02_Num t645 (IntKind.u64.wrap a0.E) (1:Int)).bind fun t654 => ((ref02_Num t654 a0.Epoch (8:Int)).bind fun t663 => ((ref02_Num t663 a0.Index (8:Int)).bind fun t672 => ((ref13_Writes t672 a0.Writes).bind fun t681 => (some t681)))))) else (bif (a0.Kind == (4:Int)) then ((ref12_ID t615 a0.ID).bind fun t691 => ((ref02_Num t691 a0.Epoch (8:Int)).bind fun t700 => ((ref02_Num t700 a0.Shards (2:Int)).bind fun t709 => ((ref02_Num t709 (IntKind.u64.wrap ((a0.Parts).length : Int)) (4:Int)).bind fun t718 => (((loopO (ref13_Command_l1 a0) (t718, (0:Int)))).bind (ref13_Command_j0 a0)))))) else (bif (a0.Kind == (5:Int)) then ((ref12_ID t615 a0.ID).bind fun t851 => (some t851)) else (bif (a0.Kind == (6:Int)) then ((ref13_Rule t615 a0.Rule).bind fun t861 => ((ref02_Flag t861 a0.On).bind fun t870 => (some t870))) else (bif (a0.Kind == (7:Int)) then ((ref12_ID t615 a0.ID).bind fun t880 => ((ref02_Num t880 a0.Epoch (8:Int)).bind fun t889 => ((ref13_Rule t889 a0.Rule).bind fun t898 => ((ref13_Writes t898 a0.Writes).bind fun t907 => ((ref13_Reply t907 a0.R).bind fun t916 => (some t916)))))) else (some t615)))))))))

noncomputable def ref13_Mail_j0 (t327 : ((List Int))) (a0 : api_Mail) (z345 : (Bool)) : Option ((List Int)) :=
  (bif z345 then ((ref12_Hold t327 a0.H).bind fun t354 => (some t354)) else (bif (a0.Kind == (3:Int)) then ((ref12_Hold t327 a0.H).bind fun t364 => ((ref13_Reply t364 a0.R).bind fun t373 => (some t373))) else (bif (a0.Kind == (4:Int)) then ((ref13_Command a0.C).bind fun t381 => ((ref02_Bytes t327 t381).bind fun t392 => (some t392))) else (bif (a0.Kind == (5:Int)) then ((ref12_ID t327 a0.ID).bind fun t402 => (some t402)) else (some t327)))))
noncomputable def ref13_Mail (a0 : api_Mail) : Option ((List Int)) :=
  ((ref02_Num ([]) (IntKind.u64.wrap a0.Kind) (1:Int)).bind fun t327 => (bif (a0.Kind == (1:Int)) then ((ref13_Message t327 a0.M).bind fun t337 => (some t337)) else (((bif (a0.Kind == (2:Int)) then (some (a0.Kind == (2:Int))) else (some (a0.Kind == (6:Int))))).bind (ref13_Mail_j0 t327 a0))))

noncomputable def octet_Read (a0 : (List Int)) : Option (octet_Reader) :=
  (some ({ p := a0, bad := false } : octet_Reader))

noncomputable def octet_Reader_spoil (a0 : octet_Reader) : Option (octet_Reader) :=
  (some ({ p := a0.p, bad := true } : octet_Reader))

noncomputable def octet_Reader_Num_l1 (a1 : Int) (a0 : octet_Reader) (s : (Int × Int)) : Option ((Int × Int) ⊕ (Int)) :=
  match s with | (z388, z389) => (bif (decide (z388 < (if (8:Int) < a1 then (8:Int) else a1))) then ((geto a0.p z388).bind fun x404 => (gd (decide ((0:Int) ≤ (IntKind.i64.wrap ((8:Int) * z388)))) (some (Sum.inl ((IntKind.i64.wrap (z388 + (1:Int))), (bOr .u64 z389 (iShl .u64 (IntKind.u64.wrap x404) (IntKind.i64.wrap ((8:Int) * z388))))))))) else (inrO (some z389)))
noncomputable def octet_Reader_Num_j0 (a0 : octet_Reader) (a1 : Int) (z410 : (Int)) : Option (Int × octet_Reader) :=
  (gd (fits a0.p a1 (((a0.p).length : Nat) : Int)) (some (z410, ({ p := (subs a0.p a1 (((a0.p).length : Nat) : Int)), bad := a0.bad } : octet_Reader))))
noncomputable def octet_Reader_Num (a0 : octet_Reader) (a1 : Int) : Option (Int × octet_Reader) :=
  (bif a0.bad then ((octet_Reader_spoil a0).bind fun t345 => (some ((0:Int), t345))) else (bif (decide (a1 < (0:Int))) then ((octet_Reader_spoil a0).bind fun t351 => (some ((0:Int), t351))) else (bif (decide (((a0.p).length : Int) < a1)) then ((octet_Reader_spoil a0).bind fun t357 => (some ((0:Int), t357))) else (((loopO (octet_Reader_Num_l1 a1 a0) ((0:Int), (0:Int)))).bind (octet_Reader_Num_j0 a0 a1)))))

noncomputable def octet_Reader_Flag (a0 : octet_Reader) : Option (Bool × octet_Reader) :=
  ((octet_Reader_Num a0 (1:Int)).bind fun t350 => (bif (decide (t350.1 > (1:Int))) then ((octet_Reader_spoil t350.2).bind fun t356 => (some (false, t356))) else (some ((t350.1 == (1:Int)), t350.2))))

noncomputable def octet_Reader_Bad (a0 : octet_Reader) : Option (Bool) :=
  (some a0.bad)

noncomputable def octet_Reader_Left (a0 : octet_Reader) : Option (Int) :=
  ((octet_Reader_Bad a0).bind fun t365 => (bif t365 then (some (0:Int)) else (some ((a0.p).length : Int))))

noncomputable def octet_Reader_Count (a0 : octet_Reader) (a1 : Int) : Option (Int × octet_Reader) :=
  ((octet_Reader_Num a0 (4:Int)).bind fun t377 => (bif (decide (a1 < (0:Int))) then ((octet_Reader_spoil t377.2).bind fun t383 => (some ((0:Int), t383))) else (bif (decide (t377.1 > (IntKind.u64.wrap a1))) then ((octet_Reader_spoil t377.2).bind fun t389 => (some ((0:Int), t389))) else (some ((IntKind.i64.wrap t377.1), t377.2)))))

noncomputable def octet_Reader_Bytes (a0 : octet_Reader) (a1 : Int) : Option ((List Int) × octet_Reader) :=
  ((octet_Reader_Num a0 (4:Int)).bind fun t424 => (bif t424.2.bad then ((octet_Reader_spoil t424.2).bind fun t434 => (some ([], t434))) else (bif (decide (a1 < (0:Int))) then ((octet_Reader_spoil t424.2).bind fun t441 => (some ([], t441))) else (bif (decide (t424.1 > (IntKind.u64.wrap a1))) then ((octet_Reader_spoil t424.2).bind fun t448 => (some ([], t448))) else (bif (decide (t424.1 > (IntKind.u64.wrap ((t424.2.p).length : Int)))) then ((octet_Reader_spoil t424.2).bind fun t455 => (some ([], t455))) else (gd (fits t424.2.p (0:Int) t424.1) (gd (room ([] : List Int) (subs t424.2.p (0:Int) t424.1)) (gd (fits t424.2.p t424.1 (((t424.2.p).length : Nat) : Int)) (some ((subs t424.2.p (0:Int) t424.1), ({ p := (subs t424.2.p t424.1 (((t424.2.p).length : Nat) : Int)), bad := t424.2.bad } : octet_Reader)))))))))))

noncomputable def mail_readMessage_l1 (t640 : (Int × octet_Reader)) (s : ((List api_Entry) × octet_Reader × Int)) : Option (((List api_Entry) × octet_Reader × Int) ⊕ (octet_Reader × (List api_Entry))) :=
  match s with | (z767, z770, z771) => (bif (decide (z771 < t640.1)) then ((octet_Reader_Num z770 (8:Int)).bind fun t782 => ((octet_Reader_Num t782.2 (8:Int)).bind fun t787 => ((octet_Reader_Num t787.2 (1:Int)).bind fun t792 => ((octet_Reader_Bytes t792.2 (1048576:Int)).bind fun t797 => (gd (room z767 ([({ Index := t782.1, Term := t787.1, Kind := (IntKind.u8.wrap t792.1), Data := t797.1 } : api_Entry)])) (some (Sum.inl ((z767 ++ ([({ Index := t782.1, Term := t787.1, Kind := (IntKind.u8.wrap t792.1), Data := t797.1 } : api_Entry)])), t797.2, (IntKind.i64.wrap (z771 + (1:Int))))))))))) else (inrO (some (z770, z767))))
noncomputable def mail_readMessage_j0 (t584 : (Int × octet_Reader)) (t589 : (Int × octet_Reader)) (t594 : (Int × octet_Reader)) (t599 : (Int × octet_Reader)) (t604 : (Int × octet_Reader)) (t609 : (Int × octet_Reader)) (t614 : (Int × octet_Reader)) (t619 : (Bool × octet_Reader)) (s : (octet_Reader × (List api_Entry))) : Option (api_Message × octet_Reader) :=
  match s with | (z820, z823) => ((octet_Reader_Num z820 (8:Int)).bind fun t831 => ((octet_Reader_Num t831.2 (8:Int)).bind fun t836 => ((octet_Reader_Num t836.2 (8:Int)).bind fun t841 => ((octet_Reader_Bytes t841.2 (1048576:Int)).bind fun t846 => (some (({ Kind := (IntKind.u8.wrap t584.1), From := (IntKind.i64.wrap t589.1), To := (IntKind.i64.wrap t594.1), Term := t599.1, Index := t604.1, LogTerm := t609.1, Commit := t614.1, OK := t619.1, Entries := z823, S := ({ Index := t831.1, Term := t836.1, Voters := t841.1, Data := t846.1 } : api_Snap) } : api_Message), t846.2))))))
noncomputable def mail_readMessage (a0 : octet_Reader) : Option (api_Message × octet_Reader) :=
  ((octet_Reader_Num a0 (1:Int)).bind fun t584 => ((octet_Reader_Num t584.2 (1:Int)).bind fun t589 => ((octet_Reader_Num t589.2 (1:Int)).bind fun t594 => ((octet_Reader_Num t594.2 (8:Int)).bind fun t599 => ((octet_Reader_Num t599.2 (8:Int)).bind fun t604 => ((octet_Reader_Num t604.2 (8:Int)).bind fun t609 => ((octet_Reader_Num t609.2 (8:Int)).bind fun t614 => ((octet_Reader_Flag t614.2).bind fun t619 => ((((octet_Reader_Left t619.2).bind fun t635 => ((octet_Reader_Count t619.2 t635).bind fun t640 => (loopO (mail_readMessage_l1 t640) ([], t640.2, (0:Int)))))).bind (mail_readMessage_j0 t584 t589 t594 t599 t604 t609 t614 t619))))))))))

noncomputable def number_Back (a0 : Int) : Option (Nat) :=
  (bif ((iShr .u64 a0 (63:Int)) == (1:Int)) then (some (Int.toNat (bAndNot .u64 a0 (9223372036854775808:Int)))) else (some (Int.toNat (bXor .u64 ((18446744073709551615):Int) a0))))

noncomputable def locks_Read_l1 (t804 : (Int × octet_Reader)) (s : ((List Nat) × octet_Reader × Int)) : Option (((List Nat) × octet_Reader × Int) ⊕ (octet_Reader × (List Nat))) :=
  match s with | (z880, z883, z884) => (bif (decide (z884 < t804.1)) then ((octet_Reader_Num z883 (8:Int)).bind fun t894 => ((number_Back t894.1).bind fun t899 => (gd (room z880 ([t899])) (some (Sum.inl ((z880 ++ ([t899])), t894.2, (IntKind.i64.wrap (z884 + (1:Int))))))))) else (inrO (some (z883, z880))))
noncomputable def locks_Read_l3 (t924 : (Int × octet_Reader)) (s : ((List (Nat × Nat)) × octet_Reader × Int)) : Option (((List (Nat × Nat)) × octet_Reader × Int) ⊕ (octet_Reader × (List (Nat × Nat)))) :=
  match s with | (z1030, z1033, z1034) => (bif (decide (z1034 < t924.1)) then ((octet_Reader_Num z1033 (8:Int)).bind fun t1044 => ((number_Back t1044.1).bind fun t1049 => ((octet_Reader_Num t1044.2 (8:Int)).bind fun t1054 => ((number_Back t1054.1).bind fun t1059 => (gd (room z1030 ([(t1049, t1059)])) (some (Sum.inl ((z1030 ++ ([(t1049, t1059)])), t1054.2, (IntKind.i64.wrap (z1034 + (1:Int))))))))))) else (inrO (some (z1033, z1030))))
noncomputable def locks_Read_l5 (t1084 : (Int × octet_Reader)) (s : ((List Nat) × octet_Reader × Int)) : Option (((List Nat) × octet_Reader × Int) ⊕ (octet_Reader × (List Nat))) :=
  match s with | (z1160, z1163, z1164) => (bif (decide (z1164 < t1084.1)) then ((octet_Reader_Num z1163 (8:Int)).bind fun t1174 => ((number_Back t1174.1).bind fun t1179 => (gd (room z1160 ([t1179])) (some (Sum.inl ((z1160 ++ ([t1179])), t1174.2, (IntKind.i64.wrap (z1164 + (1:Int))))))))) else (inrO (some (z1163, z1160))))
noncomputable def locks_Read_j4 (t774 : (Int × octet_Reader)) (t779 : (Int × octet_Reader)) (t784 : (Int × octet_Reader)) (z918 : (List Nat)) (z1078 : (List (Nat × Nat))) (s : (octet_Reader × (List Nat))) : Option (api_Hold × octet_Reader) :=
  match s with | (z1195, z1198) => ((octet_Reader_Bytes z1195 (257:Int)).bind fun t1204 => (some (({ ID := ({ Session := t774.1, Seq := t779.1 } : api_ID), Epoch := t784.1, Gets := z918, Scans := z1078, Puts := z1198, Data := t1204.1 } : api_Hold), t1204.2)))
noncomputable def locks_Read_j2 (t774 : (Int × octet_Reader)) (t779 : (Int × octet_Reader)) (t784 : (Int × octet_Reader)) (z918 : (List Nat)) (s : (octet_Reader × (List (Nat × Nat)))) : Option (api_Hold × octet_Reader) :=
  match s with | (z1075, z1078) => ((((octet_Reader_Count z1075 (32:Int)).bind fun t1084 => (loopO (locks_Read_l5 t1084) ([], t1084.2, (0:Int))))).bind (locks_Read_j4 t774 t779 t784 z918 z1078))
noncomputable def locks_Read_j0 (t774 : (Int × octet_Reader)) (t779 : (Int × octet_Reader)) (t784 : (Int × octet_Reader)) (s : (octet_Reader × (List Nat))) : Option (api_Hold × octet_Reader) :=
  match s with | (z915, z918) => ((((octet_Reader_Count z915 (32:Int)).bind fun t924 => (loopO (locks_Read_l3 t924) ([], t924.2, (0:Int))))).bind (locks_Read_j2 t774 t779 t784 z918))
noncomputable def locks_Read (a0 : octet_Reader) : Option (api_Hold × octet_Reader) :=
  ((octet_Reader_Num a0 (8:Int)).bind fun t774 => ((octet_Reader_Num t774.2 (8:Int)).bind fun t779 => ((octet_Reader_Num t779.2 (8:Int)).bind fun t784 => ((((octet_Reader_Count t784.2 (32:Int)).bind fun t804 => (loopO (locks_Read_l1 t804) ([], t804.2, (0:Int))))).bind (locks_Read_j0 t774 t779 t784)))))

noncomputable def command_ReadReply_l1 (t1309 : (Int × octet_Reader)) (s : ((List api_Got) × octet_Reader × Int)) : Option (((List api_Got) × octet_Reader × Int) ⊕ (octet_Reader × (List api_Got))) :=
  match s with | (z1406, z1409, z1410) => (bif (decide (z1410 < t1309.1)) then ((octet_Reader_Flag z1409).bind fun t1421 => ((octet_Reader_Bytes t1421.2 (256:Int)).bind fun t1426 => (gd (room z1406 ([({ Has := t1421.1, Val := t1426.1 } : api_Got)])) (some (Sum.inl ((z1406 ++ ([({ Has := t1421.1, Val := t1426.1 } : api_Got)])), t1426.2, (IntKind.i64.wrap (z1410 + (1:Int))))))))) else (inrO (some (z1409, z1406))))
noncomputable def command_ReadReply_l4 (t2026 : (Int × octet_Reader)) (s : (octet_Reader × Int × (List api_Pair))) : Option ((octet_Reader × Int × (List api_Pair)) ⊕ (octet_Reader × (List api_Pair))) :=
  match s with | (z2132, z2133, z2134) => (bif (decide (z2133 < t2026.1)) then ((octet_Reader_Num z2132 (8:Int)).bind fun t2147 => ((number_Back t2147.1).bind fun t2152 => ((octet_Reader_Bytes t2147.2 (256:Int)).bind fun t2157 => (gd (room z2134 ([({ At := t2152, Val := t2157.1 } : api_Pair)])) (some (Sum.inl (t2157.2, (IntKind.i64.wrap (z2133 + (1:Int))), (z2134 ++ ([({ At := t2152, Val := t2157.1 } : api_Pair)]))))))))) else (inrO (some (z2132, z2134))))
noncomputable def command_ReadReply_j3 (z2010 : (List (List api_Pair))) (z2014 : Int) (s : (octet_Reader × (List api_Pair))) : Option (((List (List api_Pair)) × octet_Reader × Int) ⊕ (api_Reply × octet_Reader)) :=
  match s with | (z2178, z2181) => (gd (room z2010 ([z2181])) (some (Sum.inl ((z2010 ++ ([z2181])), z2178, (IntKind.i64.wrap (z2014 + (1:Int)))))))
noncomputable def command_ReadReply_l2 (t1460 : (Int × octet_Reader)) (t1283 : (Int × octet_Reader)) (t1288 : (Int × octet_Reader)) (t1293 : (Int × octet_Reader)) (z1452 : (List api_Got)) (s : ((List (List api_Pair)) × octet_Reader × Int)) : Option (((List (List api_Pair)) × octet_Reader × Int) ⊕ (api_Reply × octet_Reader)) :=
  match s with | (z2010, z2013, z2014) => (bif (decide (z2014 < t1460.1)) then ((((octet_Reader_Count z2013 (64:Int)).bind fun t2026 => (loopO (command_ReadReply_l4 t2026) (t2026.2, (0:Int), [])))).bind (command_ReadReply_j3 z2010 z2014)) else (inrO (some (({ E := (IntKind.i64.wrap t1283.1), Epoch := t1288.1, Index := t1293.1, Gots := z1452, Scans := z2010 } : api_Reply), z2013))))
noncomputable def command_ReadReply_j0 (t1283 : (Int × octet_Reader)) (t1288 : (Int × octet_Reader)) (t1293 : (Int × octet_Reader)) (s : (octet_Reader × (List api_Got))) : Option (api_Reply × octet_Reader) :=
  match s with | (z1449, z1452) => ((octet_Reader_Count z1449 (32:Int)).bind fun t1460 => (loopO (command_ReadReply_l2 t1460 t1283 t1288 t1293 z1452) ([], t1460.2, (0:Int))))
noncomputable def command_ReadReply (a0 : octet_Reader) : Option (api_Reply × octet_Reader) :=
  ((octet_Reader_Num a0 (1:Int)).bind fun t1283 => ((octet_Reader_Num t1283.2 (8:Int)).bind fun t1288 => ((octet_Reader_Num t1288.2 (8:Int)).bind fun t1293 => ((((octet_Reader_Count t1293.2 (32:Int)).bind fun t1309 => (loopO (command_ReadReply_l1 t1309) ([], t1309.2, (0:Int))))).bind (command_ReadReply_j0 t1283 t1288 t1293)))))

noncomputable def command_readWrites_l0 (t666 : (Int × octet_Reader)) (s : (octet_Reader × (List api_Write) × Int)) : Option ((octet_Reader × (List api_Write) × Int) ⊕ ((List api_Write) × octet_Reader)) :=
  match s with | (z787, z788, z791) => (bif (decide (z791 < t666.1)) then ((octet_Reader_Num z787 (8:Int)).bind fun t802 => ((number_Back t802.1).bind fun t807 => ((octet_Reader_Flag t802.2).bind fun t812 => ((octet_Reader_Bytes t812.2 (256:Int)).bind fun t817 => (gd (room z788 ([({ At := t807, Del := t812.1, Val := t817.1 } : api_Write)])) (some (Sum.inl (t817.2, (z788 ++ ([({ At := t807, Del := t812.1, Val := t817.1 } : api_Write)])), (IntKind.i64.wrap (z791 + (1:Int))))))))))) else (inrO (some (z788, z787))))
noncomputable def command_readWrites (a0 : octet_Reader) : Option ((List api_Write) × octet_Reader) :=
  ((octet_Reader_Count a0 (32:Int)).bind fun t666 => (loopO (command_readWrites_l0 t666) (t666.2, [], (0:Int))))

noncomputable def command_readRule (a0 : octet_Reader) : Option (api_Rule × octet_Reader) :=
  ((octet_Reader_Num a0 (8:Int)).bind fun t773 => ((octet_Reader_Num t773.2 (1:Int)).bind fun t778 => ((octet_Reader_Num t778.2 (1:Int)).bind fun t783 => ((octet_Reader_Num t783.2 (8:Int)).bind fun t788 => ((number_Back t788.1).bind fun t793 => ((octet_Reader_Num t788.2 (8:Int)).bind fun t798 => ((number_Back t798.1).bind fun t803 => ((octet_Reader_Num t798.2 (8:Int)).bind fun t808 => ((octet_Reader_Num t808.2 (4:Int)).bind fun t813 => (some (({ ID := t773.1, From := (IntKind.i64.wrap t778.1), To := (IntKind.i64.wrap t783.1), Lo := t793, Hi := t803, Authority := t808.1, Quota := (IntKind.i64.wrap t813.1) } : api_Rule), t813.2)))))))))))

noncomputable def octet_Reader_End (a0 : octet_Reader) : Option (Bool) :=
  ((octet_Reader_Bad a0).bind fun t829 => (bif (!t829) then (some (((a0.p).length : Int) == (0:Int))) else (some false)))

noncomputable def slices_Equal_byte_byte_l0 (a0 : (List Int)) (a1 : (List Int)) (z933 : (Int)) : Option ((Int) ⊕ (Bool)) :=
  (bif (decide (z933 < ((a0).length : Int))) then ((geto a0 z933).bind fun x943 => ((geto a1 z933).bind fun x948 => (bif (x943 != x948) then (inrO (some false)) else (some (Sum.inl (IntKind.i64.wrap (z933 + (1:Int)))))))) else (inrO (some true)))
noncomputable def slices_Equal_byte_byte (a0 : (List Int)) (a1 : (List Int)) : Option (Bool) :=
  (bif (((a0).length : Int) != ((a1).length : Int)) then (some false) else (loopO (slices_Equal_byte_byte_l0 a0 a1) (0:Int)))

noncomputable def command_Decode_l2 (t1044 : (Int × octet_Reader)) (s : ((List api_Part) × octet_Reader × Int)) : Option (((List api_Part) × octet_Reader × Int) ⊕ (octet_Reader × (List api_Part))) :=
  match s with | (z1141, z1144, z1145) => (bif (decide (z1145 < t1044.1)) then ((octet_Reader_Num z1144 (1:Int)).bind fun t1156 => ((command_readWrites t1156.2).bind fun t1161 => (gd (room z1141 ([({ Shard := (IntKind.i64.wrap t1156.1), Writes := t1161.1 } : api_Part)])) (some (Sum.inl ((z1141 ++ ([({ Shard := (IntKind.i64.wrap t1156.1), Writes := t1161.1 } : api_Part)])), t1161.2, (IntKind.i64.wrap (z1145 + (1:Int))))))))) else (inrO (some (z1144, z1141))))
noncomputable def command_Decode_j1 (t908 : (Int × octet_Reader)) (z1024 : Int) (z1025 : Int) (t1030 : (Int × octet_Reader)) (t1035 : (Int × octet_Reader)) (s : (octet_Reader × (List api_Part))) : Option ((octet_Reader × api_Command) ⊕ (api_Command × Int)) :=
  match s with | (z1184, z1187) => ((command_ReadReply z1184).bind fun t1195 => (some (Sum.inl (t1195.2, ({ Kind := (IntKind.u8.wrap t908.1), ID := ({ Session := z1024, Seq := z1025 } : api_ID), Epoch := t1030.1, Index := (0:Int), E := (0:Int), Hold := zero_api_Hold, Writes := [], R := t1195.1, Shards := t1035.1, Parts := z1187, Rule := zero_api_Rule, On := false } : api_Command)))))
noncomputable def command_Decode_j0 (a0 : (List Int)) (s : (octet_Reader × api_Command)) : Option (api_Command × Int) :=
  match s with | (z1305, z1306) => ((octet_Reader_End z1305).bind fun t1330 => (bif (!t1330) then (some (zero_api_Command, (5:Int))) else ((command_Encode z1306).bind fun t1362 => ((slices_Equal_byte_byte t1362 a0).bind fun t1371 => (bif (!t1371) then (some (zero_api_Command, (5:Int))) else (some (z1306, (0:Int))))))))
noncomputable def command_Decode (a0 : (List Int)) : Option (api_Command × Int) :=
  ((octet_Read a0).bind fun t890 => ((octet_Reader_Num t890 (1:Int)).bind fun t908 => (joinO (bif ((IntKind.u8.wrap t908.1) == (1:Int)) then ((octet_Reader_Num t908.2 (8:Int)).bind fun t937 => (some (Sum.inl (t937.2, ({ Kind := (IntKind.u8.wrap t908.1), ID := ({ Session := (0:Int), Seq := (0:Int) } : api_ID), Epoch := t937.1, Index := (0:Int), E := (0:Int), Hold := zero_api_Hold, Writes := [], R := zero_api_Reply, Shards := (0:Int), Parts := [], Rule := zero_api_Rule, On := false } : api_Command))))) else (bif ((IntKind.u8.wrap t908.1) == (2:Int)) then ((locks_Read t908.2).bind fun t945 => (some (Sum.inl (t945.2, ({ Kind := (IntKind.u8.wrap t908.1), ID := ({ Session := (0:Int), Seq := (0:Int) } : api_ID), Epoch := (0:Int), Index := (0:Int), E := (0:Int), Hold := t945.1, Writes := [], R := zero_api_Reply, Shards := (0:Int), Parts := [], Rule := zero_api_Rule, On := false } : api_Command))))) else (bif ((IntKind.u8.wrap t908.1) == (3:Int)) then (((octet_Reader_Num t908.2 (8:Int)).bind fun t961 => ((octet_Reader_Num t961.2 (8:Int)).bind fun t966 => (some (t966.2, t961.1, t966.1)))).bind fun (z973, z974, z975) => ((octet_Reader_Num z973 (1:Int)).bind fun t980 => ((octet_Reader_Num t980.2 (8:Int)).bind fun t985 => ((octet_Reader_Num t985.2 (8:Int)).bind fun t990 => ((command_readWrites t990.2).bind fun t1001 => (some (Sum.inl (t1001.2, ({ Kind := (IntKind.u8.wrap t908.1), ID := ({ Session := z974, Seq := z975 } : api_ID), Epoch := t985.1, Index := t990.1, E := (IntKind.i64.wrap t980.1), Hold := zero_api_Hold, Writes := t1001.1, R := zero_api_Reply, Shards := (0:Int), Parts := [], Rule := zero_api_Rule, On := false } : api_Command))))))))) else (bif ((IntKind.u8.wrap t908.1) == (4:Int)) then (((octet_Reader_Num t908.2 (8:Int)).bind fun t1011 => ((octet_Reader_Num t1011.2 (8:Int)).bind fun t1016 => (some (t1016.2, t1011.1, t1016.1)))).bind fun (z1023, z1024, z1025) => ((octet_Reader_Num z1023 (8:Int)).bind fun t1030 => ((octet_Reader_Num t1030.2 (2:Int)).bind fun t1035 => ((((octet_Reader_Count t1035.2 (8:Int)).bind fun t1044 => (loopO (command_Decode_l2 t1044) ([], t1044.2, (0:Int))))).bind (command_Decode_j1 t908 z1024 z1025 t1030 t1035))))) else (bif ((IntKind.u8.wrap t908.1) == (5:Int)) then (((octet_Reader_Num t908.2 (8:Int)).bind fun t1207 => ((octet_Reader_Num t1207.2 (8:Int)).bind fun t1212 => (some (t1212.2, t1207.1, t1212.1)))).bind fun (z1219, z1220, z1221) => (some (Sum.inl (z1219, ({ Kind := (IntKind.u8.wrap t908.1), ID := ({ Session := z1220, Seq := z1221 } : api_ID), Epoch := (0:Int), Index := (0:Int), E := (0:Int), Hold := zero_api_Hold, Writes := [], R := zero_api_Reply, Shards := (0:Int), Parts := [], Rule := zero_api_Rule, On := false } : api_Command))))) else (bif ((IntKind.u8.wrap t908.1) == (6:Int)) then ((command_readRule t908.2).bind fun t1227 => ((octet_Reader_Flag t1227.2).bind fun t1234 => (some (Sum.inl (t1234.2, ({ Kind := (IntKind.u8.wrap t908.1), ID := ({ Session := (0:Int), Seq := (0:Int) } : api_ID), Epoch := (0:Int), Index := (0:Int), E := (0:Int), Hold := zero_api_Hold, Writes := [], R := zero_api_Reply, Shards := (0:Int), Parts := [], Rule := t1227.1, On := t1234.1 } : api_Command)))))) else (bif ((IntKind.u8.wrap t908.1) == (7:Int)) then (((octet_Reader_Num t908.2 (8:Int)).bind fun t1242 => ((octet_Reader_Num t1242.2 (8:Int)).bind fun t1247 => (some (t1247.2, t1242.1, t1247.1)))).bind fun (z1254, z1255, z1256) => ((octet_Reader_Num z1254 (8:Int)).bind fun t1261 => ((command_readRule t1261.2).bind fun t1268 => ((command_readWrites t1268.2).bind fun t1275 => ((command_ReadReply t1275.2).bind fun t1284 => (some (Sum.inl (t1284.2, ({ Kind := (IntKind.u8.wrap t908.1), ID := ({ Session := z1255, Seq := z1256 } : api_ID), Epoch := t1261.1, Index := (0:Int), E := (0:Int), Hold := zero_api_Hold, Writes := t1275.1, R := t1284.1, Shards := (0:Int), Parts := [], Rule := t1268.1, On := false } : api_Command))))))))) else (inrO (some (zero_api_Command, (5:Int))))))))))) (command_Decode_j0 a0))))

noncomputable def mail_Decode_j1 (t634 : (Int × octet_Reader)) (z691 : (Bool)) : Option ((octet_Reader × api_Mail) ⊕ (api_Mail × Int)) :=
  (bif z691 then ((locks_Read t634.2).bind fun t698 => (some (Sum.inl (t698.2, ({ Kind := (IntKind.u8.wrap t634.1), M := zero_api_Message, H := t698.1, ID := ({ Session := (0:Int), Seq := (0:Int) } : api_ID), R := zero_api_Reply, C := zero_api_Command } : api_Mail))))) else (bif ((IntKind.u8.wrap t634.1) == (3:Int)) then ((locks_Read t634.2).bind fun t714 => ((command_ReadReply t714.2).bind fun t729 => (some (Sum.inl (t729.2, ({ Kind := (IntKind.u8.wrap t634.1), M := zero_api_Message, H := t714.1, ID := ({ Session := (0:Int), Seq := (0:Int) } : api_ID), R := t729.1, C := zero_api_Command } : api_Mail)))))) else (bif ((IntKind.u8.wrap t634.1) == (4:Int)) then ((octet_Reader_Bytes t634.2 (1048576:Int)).bind fun t741 => ((command_Decode t741.1).bind fun t751 => (bif (t751.2 != (0:Int)) then (inrO (some (zero_api_Mail, (5:Int)))) else (bif (t751.1.Kind != (3:Int)) then (inrO (some (zero_api_Mail, (5:Int)))) else (some (Sum.inl (t741.2, ({ Kind := (IntKind.u8.wrap t634.1), M := zero_api_Message, H := zero_api_Hold, ID := ({ Session := (0:Int), Seq := (0:Int) } : api_ID), R := zero_api_Reply, C := t751.1 } : api_Mail)))))))) else (bif ((IntKind.u8.wrap t634.1) == (5:Int)) then ((octet_Reader_Num t634.2 (8:Int)).bind fun t828 => ((octet_Reader_Num t828.2 (8:Int)).bind fun t833 => (some (Sum.inl (t833.2, ({ Kind := (IntKind.u8.wrap t634.1), M := zero_api_Message, H := zero_api_Hold, ID := ({ Session := t828.1, Seq := t833.1 } : api_ID), R := zero_api_Reply, C := zero_api_Command } : api_Mail)))))) else (inrO (some (zero_api_Mail, (5:Int))))))))
noncomputable def mail_Decode_j0 (a0 : (List Int)) (s : (octet_Reader × api_Mail)) : Option (api_Mail × Int) :=
  match s with | (z858, z859) => ((octet_Reader_End z858).bind fun t899 => (bif (!t899) then (some (zero_api_Mail, (5:Int))) else ((mail_Encode z859).bind fun t955 => ((slices_Equal_byte_byte t955 a0).bind fun t964 => (bif (!t964) then (some (zero_api_Mail, (5:Int))) else (some (z859, (0:Int))))))))
noncomputable def mail_Decode (a0 : (List Int)) : Option (api_Mail × Int) :=
  ((octet_Read a0).bind fun t627 => ((octet_Reader_Num t627 (1:Int)).bind fun t634 => (joinO (bif ((IntKind.u8.wrap t634.1) == (1:Int)) then ((mail_readMessage t634.2).bind fun t679 => (some (Sum.inl (t679.2, ({ Kind := (IntKind.u8.wrap t634.1), M := t679.1, H := zero_api_Hold, ID := ({ Session := (0:Int), Seq := (0:Int) } : api_ID), R := zero_api_Reply, C := zero_api_Command } : api_Mail))))) else (((bif ((IntKind.u8.wrap t634.1) == (2:Int)) then (some ((IntKind.u8.wrap t634.1) == (2:Int))) else (some ((IntKind.u8.wrap t634.1) == (6:Int))))).bind (mail_Decode_j1 t634))) (mail_Decode_j0 a0))))

noncomputable def ref08_SameEntries_l0 (a0 : (List api_Entry)) (a1 : (List api_Entry)) (z503 : (Int)) : Option ((Int) ⊕ (Bool)) :=
  (bif (decide (z503 < ((a0).length : Int))) then ((geto a0 z503).bind fun x513 => ((geto a1 z503).bind fun x524 => (bif (x513.Index != x524.Index) then (inrO (some false)) else (bif (x513.Term != x524.Term) then (inrO (some false)) else (bif (x513.Kind != x524.Kind) then (inrO (some false)) else (bif (!(sEq (toStr x513.Data) (toStr x524.Data))) then (inrO (some false)) else (some (Sum.inl (IntKind.i64.wrap (z503 + (1:Int))))))))))) else (inrO (some true)))
noncomputable def ref08_SameEntries (a0 : (List api_Entry)) (a1 : (List api_Entry)) : Option (Bool) :=
  (bif (((a0).length : Int) != ((a1).length : Int)) then (some false) else (loopO (ref08_SameEntries_l0 a0 a1) (0:Int)))

noncomputable def math_Signbit (a0 : Nat) : Option (Bool) :=
  (some (decide ((IntKind.i64.wrap (Int.ofNat a0)) < (0:Int))))

noncomputable def ref01_Ahead_j0 (a0 : Nat) (a1 : Nat) (_s : Unit) : Option (Bool) :=
  (some (fLt a0 a1))
noncomputable def ref01_Ahead (a0 : Nat) (a1 : Nat) : Option (Bool) :=
  (bif (fNe a0 a0) then (some false) else (bif (fNe a1 a1) then (some true) else (joinO (bif (fEq a0 (0:Nat)) then (bif (fEq a1 (0:Nat)) then ((math_Signbit a0).bind fun t410 => (bif t410 then ((math_Signbit a1).bind fun t416 => (inrO (some (!t416)))) else (inrO (some false)))) else (some (Sum.inl ()))) else (some (Sum.inl ()))) (ref01_Ahead_j0 a0 a1))))

noncomputable def ref01_Same (a0 : Nat) (a1 : Nat) : Option (Bool) :=
  ((ref01_Ahead a0 a1).bind fun t397 => (bif (!t397) then ((ref01_Ahead a1 a0).bind fun t403 => (some (!t403))) else (some false)))

noncomputable def ref11_SameHold_l1 (a0 : api_Hold) (a1 : api_Hold) (z655 : (Int)) : Option ((Int) ⊕ (Unit ⊕ (Bool))) :=
  (bif (decide (z655 < ((a0.Gets).length : Int))) then ((geto a0.Gets z655).bind fun x665 => ((geto a1.Gets z655).bind fun x670 => ((ref01_Same x665 x670).bind fun t675 => (bif (!t675) then (inrO (inrO (some false))) else (some (Sum.inl (IntKind.i64.wrap (z655 + (1:Int))))))))) else (inrO (some (Sum.inl ()))))
noncomputable def ref11_SameHold_l3 (a0 : api_Hold) (a1 : api_Hold) (z733 : (Int)) : Option ((Int) ⊕ (Unit ⊕ (Bool))) :=
  (bif (decide (z733 < ((a0.Scans).length : Int))) then ((geto a0.Scans z733).bind fun x743 => ((geto a1.Scans z733).bind fun x748 => ((ref01_Same x743.1 x748.1).bind fun t753 => (bif (!t753) then (inrO (inrO (some false))) else ((ref01_Same x743.2 x748.2).bind fun t759 => (bif (!t759) then (inrO (inrO (some false))) else (some (Sum.inl (IntKind.i64.wrap (z733 + (1:Int))))))))))) else (inrO (some (Sum.inl ()))))
noncomputable def ref11_SameHold_l4 (a0 : api_Hold) (a1 : api_Hold) (z805 : (Int)) : Option ((Int) ⊕ (Bool)) :=
  (bif (decide (z805 < ((a0.Puts).length : Int))) then ((geto a0.Puts z805).bind fun x815 => ((geto a1.Puts z805).bind fun x820 => ((ref01_Same x815 x820).bind fun t825 => (bif (!t825) then (inrO (some false)) else (some (Sum.inl (IntKind.i64.wrap (z805 + (1:Int))))))))) else (inrO (some true)))
noncomputable def ref11_SameHold_j2 (a0 : api_Hold) (a1 : api_Hold) (_s : Unit) : Option (Bool) :=
  (loopO (ref11_SameHold_l4 a0 a1) (0:Int))
noncomputable def ref11_SameHold_j0 (a0 : api_Hold) (a1 : api_Hold) (_s : Unit) : Option (Bool) :=
  (joinO (loopO (ref11_SameHold_l3 a0 a1) (0:Int)) (ref11_SameHold_j2 a0 a1))
noncomputable def ref11_SameHold (a0 : api_Hold) (a1 : api_Hold) : Option (Bool) :=
  (bif (!((a0.ID.Session == a1.ID.Session) && (a0.ID.Seq == a1.ID.Seq))) then (some false) else (bif (a0.Epoch != a1.Epoch) then (some false) else (bif (((a0.Gets).length : Int) != ((a1.Gets).length : Int)) then (some false) else (bif (((a0.Scans).length : Int) != ((a1.Scans).length : Int)) then (some false) else (bif (((a0.Puts).length : Int) != ((a1.Puts).length : Int)) then (some false) else (bif (!(sEq (toStr a0.Data) (toStr a1.Data))) then (some false) else (joinO (loopO (ref11_SameHold_l1 a0 a1) (0:Int)) (ref11_SameHold_j0 a0 a1))))))))

noncomputable def ref11_SameGots_l0 (a0 : (List api_Got)) (a1 : (List api_Got)) (z520 : (Int)) : Option ((Int) ⊕ (Bool)) :=
  (bif (decide (z520 < ((a0).length : Int))) then ((geto a0 z520).bind fun x530 => ((geto a1 z520).bind fun x541 => (bif (!(x530.Has == x541.Has)) then (inrO (some false)) else (bif (!(sEq (toStr x530.Val) (toStr x541.Val))) then (inrO (some false)) else (some (Sum.inl (IntKind.i64.wrap (z520 + (1:Int))))))))) else (inrO (some true)))
noncomputable def ref11_SameGots (a0 : (List api_Got)) (a1 : (List api_Got)) : Option (Bool) :=
  (bif (((a0).length : Int) != ((a1).length : Int)) then (some false) else (loopO (ref11_SameGots_l0 a0 a1) (0:Int)))

noncomputable def ref11_SamePairs_l0 (a0 : (List api_Pair)) (a1 : (List api_Pair)) (z613 : (Int)) : Option ((Int) ⊕ (Bool)) :=
  (bif (decide (z613 < ((a0).length : Int))) then ((geto a0 z613).bind fun x623 => ((geto a1 z613).bind fun x634 => ((ref01_Same x623.At x634.At).bind fun t645 => (bif (!t645) then (inrO (some false)) else (bif (!(sEq (toStr x623.Val) (toStr x634.Val))) then (inrO (some false)) else (some (Sum.inl (IntKind.i64.wrap (z613 + (1:Int)))))))))) else (inrO (some true)))
noncomputable def ref11_SamePairs (a0 : (List api_Pair)) (a1 : (List api_Pair)) : Option (Bool) :=
  (bif (((a0).length : Int) != ((a1).length : Int)) then (some false) else (loopO (ref11_SamePairs_l0 a0 a1) (0:Int)))

noncomputable def ref11_SameReply_l0 (a0 : api_Reply) (a1 : api_Reply) (z565 : (Int)) : Option ((Int) ⊕ (Bool)) :=
  (bif (decide (z565 < ((a0.Scans).length : Int))) then ((geto a0.Scans z565).bind fun x575 => ((geto a1.Scans z565).bind fun x586 => ((ref11_SamePairs x575 x586).bind fun t597 => (bif (!t597) then (inrO (some false)) else (some (Sum.inl (IntKind.i64.wrap (z565 + (1:Int))))))))) else (inrO (some true)))
noncomputable def ref11_SameReply (a0 : api_Reply) (a1 : api_Reply) : Option (Bool) :=
  (bif (a0.E != a1.E) then (some false) else (bif (a0.Epoch != a1.Epoch) then (some false) else (bif (a0.Index != a1.Index) then (some false) else ((ref11_SameGots a0.Gots a1.Gots).bind fun t499 => (bif (!t499) then (some false) else (bif (((a0.Scans).length : Int) != ((a1.Scans).length : Int)) then (some false) else (loopO (ref11_SameReply_l0 a0 a1) (0:Int))))))))

noncomputable def law17_same (a0 : api_Mail) (a1 : api_Mail) : Option (Bool) :=
  (bif (a0.M.Kind != a1.M.Kind) then (some false) else (bif (a0.M.From != a1.M.From) then (some false) else (bif (a0.M.To != a1.M.To) then (some false) else (bif (a0.M.Term != a1.M.Term) then (some false) else (bif (a0.M.Index != a1.M.Index) then (some false) else (bif (a0.M.LogTerm != a1.M.LogTerm) then (some false) else (bif (a0.M.Commit != a1.M.Commit) then (some false) else (bif (!(a0.M.OK == a1.M.OK)) then (some false) else ((ref08_SameEntries a0.M.Entries a1.M.Entries).bind fun t457 => (bif (!t457) then (some false) else (bif (a0.M.S.Index != a1.M.S.Index) then (some false) else (bif (a0.M.S.Term != a1.M.S.Term) then (some false) else (bif (a0.M.S.Voters != a1.M.S.Voters) then (some false) else (bif (!(sEq (toStr a0.M.S.Data) (toStr a1.M.S.Data))) then (some false) else (bif (a0.Kind == a1.Kind) then (bif ((a0.ID.Session == a1.ID.Session) && (a0.ID.Seq == a1.ID.Seq)) then ((ref11_SameHold a0.H a1.H).bind fun t469 => (bif t469 then ((ref11_SameReply a0.R a1.R).bind fun t475 => (bif t475 then ((ref13_Command a0.C).bind fun t481 => ((ref13_Command a1.C).bind fun t488 => (some (sEq (toStr t481) (toStr t488))))) else (some false))) else (some false))) else (some false)) else (some false))))))))))))))))

noncomputable def law17_MailApart (a0 : (List Int)) (a1 : (List Int)) (a2 : Int) : Option (Bool) :=
  (law17_awake.bind fun t433 => (bif (!t433) then (law17_awake.bind fun t439 => (some t439)) else (bif (decide (((a0).length : Int) > (100:Int))) then (law17_awake.bind fun t445 => (some t445)) else (bif (decide (((a1).length : Int) > (100:Int))) then (law17_awake.bind fun t451 => (some t451)) else ((law17_make1 ({ L := a0, I := (0:Int) } : ref12_Tape)).bind fun t462 => ((law17_make1 ({ L := a1, I := (0:Int) } : ref12_Tape)).bind fun t528 => ((ref13_Mail ({ Kind := (4:Int), M := zero_api_Message, H := zero_api_Hold, ID := ({ Session := (0:Int), Seq := (0:Int) } : api_ID), R := zero_api_Reply, C := ({ Kind := (IntKind.u8.wrap ((1:Int) + (Int.tmod a2 (7:Int)))), ID := ({ Session := (0:Int), Seq := (0:Int) } : api_ID), Epoch := (0:Int), Index := (0:Int), E := (0:Int), Hold := zero_api_Hold, Writes := [], R := zero_api_Reply, Shards := (0:Int), Parts := [], Rule := zero_api_Rule, On := false } : api_Command) } : api_Mail)).bind fun t643 => ((mail_Decode t643).bind fun t653 => ((mail_Encode t462.1).bind fun t745 => ((mail_Encode t528.1).bind fun t784 => ((law17_same t462.1 t528.1).bind fun t855 => (bif ((sEq (toStr t745) (toStr t784)) == t855) then (some ((t653.2 == (0:Int)) == ((IntKind.u8.wrap ((1:Int) + (Int.tmod a2 (7:Int)))) == (3:Int)))) else (some false)))))))))))))

noncomputable def law17_MailJunk_j0 (a1 : (List Int)) (a2 : Int) (a3 : Int) (_s : Unit) : Option (Bool) :=
  ((law17_make1 ({ L := a1, I := (0:Int) } : ref12_Tape)).bind fun t477 => ((mail_Encode t477.1).bind fun t546 => (gd (!(((t546).length : Int) == (0:Int))) ((geto t546 (Int.tmod (IntKind.i64.wrap a2) ((t546).length : Int))).bind fun x554 => ((mail_Decode (t546.set (Int.tmod (IntKind.i64.wrap a2) ((t546).length : Int)).toNat (bXor .u8 x554 a3))).bind fun t566 => (bif (t566.2 == (0:Int)) then ((mail_Encode t566.1).bind fun t659 => (bif (sEq (toStr t659) (toStr (t546.set (Int.tmod (IntKind.i64.wrap a2) ((t546).length : Int)).toNat (bXor .u8 x554 a3)))) then (some true) else (some (t566.2 == (5:Int))))) else (some (t566.2 == (5:Int)))))))))
noncomputable def law17_MailJunk (a0 : (List Int)) (a1 : (List Int)) (a2 : Int) (a3 : Int) : Option (Bool) :=
  (law17_awake.bind fun t336 => (bif (!t336) then (law17_awake.bind fun t342 => (some t342)) else (bif (decide (((a0).length : Int) > (1000:Int))) then (law17_awake.bind fun t348 => (some t348)) else (bif (decide (((a1).length : Int) > (200:Int))) then (law17_awake.bind fun t354 => (some t354)) else ((mail_Decode a0).bind fun t359 => (joinO (bif (t359.2 == (0:Int)) then ((mail_Encode t359.1).bind fun t452 => (bif (!(sEq (toStr t452) (toStr a0))) then (inrO (some false)) else (bif (t359.2 != (0:Int)) then (bif (t359.2 != (5:Int)) then (inrO (some false)) else (bif (t359.1.Kind != (0:Int)) then (inrO (some false)) else (some (Sum.inl ())))) else (some (Sum.inl ()))))) else (bif (t359.2 != (0:Int)) then (bif (t359.2 != (5:Int)) then (inrO (some false)) else (bif (t359.1.Kind != (0:Int)) then (inrO (some false)) else (some (Sum.inl ())))) else (some (Sum.inl ())))) (law17_MailJunk_j0 a1 a2 a3)))))))

noncomputable def law17_MailBytes_l0 (s : (ref12_Tape × Int)) : Option ((ref12_Tape × Int) ⊕ (Bool)) :=
  match s with | (z1434, z1435) => (bif (decide (z1435 < (5:Int))) then ((law17_make1 z1434).bind fun t1446 => ((mail_Encode t1446.1).bind fun t1538 => ((mail_Decode t1538).bind fun t1548 => ((ref13_Mail t1446.1).bind fun t1640 => (bif (!(sEq (toStr t1538) (toStr t1640))) then (inrO (some false)) else (bif (t1548.2 != (0:Int)) then (inrO (some false)) else ((law17_same t1446.1 t1548.1).bind fun t1713 => (bif (!t1713) then (inrO (some false)) else (some (Sum.inl (t1446.2, (IntKind.i64.wrap (z1435 + (1:Int)))))))))))))) else (inrO (some true)))
noncomputable def law17_MailBytes (a0 : (List Int)) : Option (Bool) :=
  (law17_awake.bind fun t861 => (bif (!t861) then (law17_awake.bind fun t867 => (some t867)) else (bif (decide (((a0).length : Int) > (300:Int))) then (law17_awake.bind fun t873 => (some t873)) else (loopO (law17_MailBytes_l0) (({ L := a0, I := (0:Int) } : ref12_Tape), (0:Int))))))
end Go.Proofs.Ytldfdainhdiffaa
