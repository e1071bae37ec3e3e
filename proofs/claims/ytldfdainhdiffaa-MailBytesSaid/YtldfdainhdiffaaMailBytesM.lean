/- The models of the Go functions: plain Lean, no memory. -/
import Derived.Test.YtldfdainhdiffaaMailBytesGv
set_option linter.unusedVariables false
set_option linter.unusedSimpArgs false
set_option maxRecDepth 100000
set_option maxHeartbeats 4000000
namespace Go.Proofs.Ytldfdainhdiffaa
open Go Go.V
structure api_Entry where
  Index : Int
  Term : Int
  Kind : Int
  Data : (List Int)

structure api_Snap where
  Index : Int
  Term : Int
  Voters : Int
  Data : (List Int)

structure api_Message where
  Kind : Int
  From : Int
  To : Int
  Term : Int
  Index : Int
  LogTerm : Int
  Commit : Int
  OK : Bool
  Entries : (List api_Entry)
  S : api_Snap

structure api_ID where
  Session : Int
  Seq : Int

structure api_Hold where
  ID : api_ID
  Epoch : Int
  Gets : (List Nat)
  Scans : (List (Nat × Nat))
  Puts : (List Nat)
  Data : (List Int)

structure api_Got where
  Has : Bool
  Val : (List Int)

structure api_Pair where
  At : Nat
  Val : (List Int)

structure api_Reply where
  E : Int
  Epoch : Int
  Index : Int
  Gots : (List api_Got)
  Scans : (List (List api_Pair))

structure api_Write where
  At : Nat
  Del : Bool
  Val : (List Int)

structure api_Part where
  Shard : Int
  Writes : (List api_Write)

structure api_Rule where
  ID : Int
  From : Int
  To : Int
  Lo : Nat
  Hi : Nat
  Authority : Int
  Quota : Int

structure api_Command where
  Kind : Int
  ID : api_ID
  Epoch : Int
  Index : Int
  E : Int
  Hold : api_Hold
  Writes : (List api_Write)
  R : api_Reply
  Shards : Int
  Parts : (List api_Part)
  Rule : api_Rule
  On : Bool

structure api_Mail where
  Kind : Int
  M : api_Message
  H : api_Hold
  ID : api_ID
  R : api_Reply
  C : api_Command

structure octet_Writer where
  p : (List Int)

structure ref12_Tape where
  L : (List Int)
  I : Int

structure octet_Reader where
  p : (List Int)
  bad : Bool

def zero_api_Snap : api_Snap := { Index := (0:Int), Term := (0:Int), Voters := (0:Int), Data := [] }

def zero_api_Message : api_Message := { Kind := (0:Int), From := (0:Int), To := (0:Int), Term := (0:Int), Index := (0:Int), LogTerm := (0:Int), Commit := (0:Int), OK := false, Entries := [], S := zero_api_Snap }

def zero_api_Hold : api_Hold := { ID := ({ Session := (0:Int), Seq := (0:Int) } : api_ID), Epoch := (0:Int), Gets := [], Scans := [], Puts := [], Data := [] }

def zero_api_Reply : api_Reply := { E := (0:Int), Epoch := (0:Int), Index := (0:Int), Gots := [], Scans := [] }

def zero_api_Rule : api_Rule := { ID := (0:Int), From := (0:Int), To := (0:Int), Lo := (0:Nat), Hi := (0:Nat), Authority := (0:Int), Quota := (0:Int) }

def zero_api_Command : api_Command := { Kind := (0:Int), ID := ({ Session := (0:Int), Seq := (0:Int) } : api_ID), Epoch := (0:Int), Index := (0:Int), E := (0:Int), Hold := zero_api_Hold, Writes := [], R := zero_api_Reply, Shards := (0:Int), Parts := [], Rule := zero_api_Rule, On := false }

def zero_api_Mail : api_Mail := { Kind := (0:Int), M := zero_api_Message, H := zero_api_Hold, ID := ({ Session := (0:Int), Seq := (0:Int) } : api_ID), R := zero_api_Reply, C := zero_api_Command }

noncomputable def octet_Writer_lay (a0 : octet_Writer) (a1 : (List Int)) : Option (octet_Writer) :=
  (gd (room a0.p a1) (some ({ p := (a0.p ++ a1) } : octet_Writer)))

noncomputable def octet_Writer_Num_l0 (a2 : Int) (a1 : Int) (s : (octet_Writer × Int)) : Option ((octet_Writer × Int) ⊕ (octet_Writer)) :=
  match s with | (z160, z161) => (bif (decide (z161 < a2)) then (gd (decide ((0:Int) ≤ (IntKind.i64.wrap ((8:Int) * z161)))) ((octet_Writer_lay z160 ([(IntKind.u8.wrap (iShr .u64 a1 (IntKind.i64.wrap ((8:Int) * z161))))])).bind fun t179 => (some (Sum.inl (t179, (IntKind.i64.wrap (z161 + (1:Int)))))))) else (inrO (some z160)))
noncomputable def octet_Writer_Num (a0 : octet_Writer) (a1 : Int) (a2 : Int) : Option (octet_Writer) :=
  (loopO (octet_Writer_Num_l0 a2 a1) (a0, (0:Int)))

noncomputable def octet_Writer_Flag (a0 : octet_Writer) (a1 : Bool) : Option (octet_Writer) :=
  (bif a1 then ((octet_Writer_Num a0 (1:Int) (1:Int)).bind fun t102 => (some t102)) else ((octet_Writer_Num a0 (0:Int) (1:Int)).bind fun t107 => (some t107)))

noncomputable def octet_Writer_Bytes (a0 : octet_Writer) (a1 : (List Int)) : Option (octet_Writer) :=
  ((octet_Writer_Num a0 (IntKind.u64.wrap ((a1).length : Int)) (4:Int)).bind fun t167 => ((octet_Writer_lay t167 a1).bind fun t172 => (some t172)))

noncomputable def mail_message_l1 (a1 : api_Message) (s : (octet_Writer × Int)) : Option ((octet_Writer × Int) ⊕ (octet_Writer)) :=
  match s with | (z426, z427) => (bif (decide (z427 < ((a1.Entries).length : Int))) then ((geto a1.Entries z427).bind fun x437 => ((octet_Writer_Num z426 x437.Index (8:Int)).bind fun t456 => ((octet_Writer_Num t456 x437.Term (8:Int)).bind fun t461 => ((octet_Writer_Num t461 (IntKind.u64.wrap x437.Kind) (1:Int)).bind fun t466 => ((octet_Writer_Bytes t466 x437.Data).bind fun t471 => (some (Sum.inl (t471, (IntKind.i64.wrap (z427 + (1:Int))))))))))) else (inrO (some z426)))
noncomputable def mail_message_j0 (a1 : api_Message) (z476 : (octet_Writer)) : Option (octet_Writer) :=
  ((octet_Writer_Num z476 a1.S.Index (8:Int)).bind fun t482 => ((octet_Writer_Num t482 a1.S.Term (8:Int)).bind fun t487 => ((octet_Writer_Num t487 a1.S.Voters (8:Int)).bind fun t492 => ((octet_Writer_Bytes t492 a1.S.Data).bind fun t497 => (some t497)))))
noncomputable def mail_message (a0 : octet_Writer) (a1 : api_Message) : Option (octet_Writer) :=
  ((octet_Writer_Num a0 (IntKind.u64.wrap a1.Kind) (1:Int)).bind fun t299 => ((octet_Writer_Num t299 (IntKind.u64.wrap a1.From) (1:Int)).bind fun t304 => ((octet_Writer_Num t304 (IntKind.u64.wrap a1.To) (1:Int)).bind fun t309 => ((octet_Writer_Num t309 a1.Term (8:Int)).bind fun t314 => ((octet_Writer_Num t314 a1.Index (8:Int)).bind fun t319 => ((octet_Writer_Num t319 a1.LogTerm (8:Int)).bind fun t324 => ((octet_Writer_Num t324 a1.Commit (8:Int)).bind fun t329 => ((octet_Writer_Flag t329 a1.OK).bind fun t334 => ((octet_Writer_Num t334 (IntKind.u64.wrap ((a1.Entries).length : Int)) (4:Int)).bind fun t339 => (((loopO (mail_message_l1 a1) (t339, (0:Int)))).bind (mail_message_j0 a1)))))))))))

noncomputable def octet_Writer_Done (a0 : octet_Writer) : Option ((List Int)) :=
  (some a0.p)

noncomputable def math_IsNaN (a0 : Nat) : Option (Bool) :=
  (some (fNe a0 a0))

noncomputable def number_Rank (a0 : Nat) : Option (Int) :=
  ((math_IsNaN a0).bind fun t143 => (bif t143 then (some (18446744073709551615:Int)) else (bif ((iShr .u64 (Int.ofNat a0) (63:Int)) == (1:Int)) then (some (bXor .u64 ((18446744073709551615):Int) (Int.ofNat a0))) else (some (bOr .u64 (Int.ofNat a0) (9223372036854775808:Int))))))

noncomputable def locks_Lay_l1 (a1 : api_Hold) (s : (octet_Writer × Int)) : Option ((octet_Writer × Int) ⊕ (octet_Writer)) :=
  match s with | (z458, z459) => (bif (decide (z459 < ((a1.Gets).length : Int))) then ((geto a1.Gets z459).bind fun x469 => ((number_Rank x469).bind fun t474 => ((octet_Writer_Num z458 t474 (8:Int)).bind fun t479 => (some (Sum.inl (t479, (IntKind.i64.wrap (z459 + (1:Int))))))))) else (inrO (some z458)))
noncomputable def locks_Lay_l3 (a1 : api_Hold) (s : (octet_Writer × Int)) : Option ((octet_Writer × Int) ⊕ (octet_Writer)) :=
  match s with | (z563, z564) => (bif (decide (z564 < ((a1.Scans).length : Int))) then ((geto a1.Scans z564).bind fun x574 => ((number_Rank x574.1).bind fun t586 => ((octet_Writer_Num z563 t586 (8:Int)).bind fun t591 => ((number_Rank x574.2).bind fun t596 => ((octet_Writer_Num t591 t596 (8:Int)).bind fun t601 => (some (Sum.inl (t601, (IntKind.i64.wrap (z564 + (1:Int))))))))))) else (inrO (some z563)))
noncomputable def locks_Lay_l5 (a1 : api_Hold) (s : (octet_Writer × Int)) : Option ((octet_Writer × Int) ⊕ (octet_Writer)) :=
  match s with | (z651, z652) => (bif (decide (z652 < ((a1.Puts).length : Int))) then ((geto a1.Puts z652).bind fun x662 => ((number_Rank x662).bind fun t667 => ((octet_Writer_Num z651 t667 (8:Int)).bind fun t672 => (some (Sum.inl (t672, (IntKind.i64.wrap (z652 + (1:Int))))))))) else (inrO (some z651)))
noncomputable def locks_Lay_j4 (a1 : api_Hold) (z677 : (octet_Writer)) : Option (octet_Writer) :=
  ((octet_Writer_Bytes z677 a1.Data).bind fun t683 => (some t683))
noncomputable def locks_Lay_j2 (a1 : api_Hold) (z606 : (octet_Writer)) : Option (octet_Writer) :=
  ((octet_Writer_Num z606 (IntKind.u64.wrap ((a1.Puts).length : Int)) (4:Int)).bind fun t612 => (((loopO (locks_Lay_l5 a1) (t612, (0:Int)))).bind (locks_Lay_j4 a1)))
noncomputable def locks_Lay_j0 (a1 : api_Hold) (z484 : (octet_Writer)) : Option (octet_Writer) :=
  ((octet_Writer_Num z484 (IntKind.u64.wrap ((a1.Scans).length : Int)) (4:Int)).bind fun t490 => (((loopO (locks_Lay_l3 a1) (t490, (0:Int)))).bind (locks_Lay_j2 a1)))
noncomputable def locks_Lay (a0 : octet_Writer) (a1 : api_Hold) : Option (octet_Writer) :=
  ((octet_Writer_Num a0 a1.ID.Session (8:Int)).bind fun t404 => ((octet_Writer_Num t404 a1.ID.Seq (8:Int)).bind fun t409 => ((octet_Writer_Num t409 a1.Epoch (8:Int)).bind fun t414 => ((octet_Writer_Num t414 (IntKind.u64.wrap ((a1.Gets).length : Int)) (4:Int)).bind fun t419 => (((loopO (locks_Lay_l1 a1) (t419, (0:Int)))).bind (locks_Lay_j0 a1))))))

noncomputable def command_LayReply_l1 (a1 : api_Reply) (s : (octet_Writer × Int)) : Option ((octet_Writer × Int) ⊕ (octet_Writer)) :=
  match s with | (z763, z764) => (bif (decide (z764 < ((a1.Gots).length : Int))) then ((geto a1.Gots z764).bind fun x774 => ((octet_Writer_Flag z763 x774.Has).bind fun t793 => ((octet_Writer_Bytes t793 x774.Val).bind fun t798 => (some (Sum.inl (t798, (IntKind.i64.wrap (z764 + (1:Int))))))))) else (inrO (some z763)))
noncomputable def command_LayReply_l3 (x1095 : (List api_Pair)) (z1085 : Int) (s : (octet_Writer × Int)) : Option ((octet_Writer × Int) ⊕ ((octet_Writer × Int) ⊕ (octet_Writer))) :=
  match s with | (z1183, z1184) => (bif (decide (z1184 < ((x1095).length : Int))) then ((geto x1095 z1184).bind fun x1194 => ((number_Rank x1194.At).bind fun t1213 => ((octet_Writer_Num z1183 t1213 (8:Int)).bind fun t1218 => ((octet_Writer_Bytes t1218 x1194.Val).bind fun t1223 => (some (Sum.inl (t1223, (IntKind.i64.wrap (z1184 + (1:Int)))))))))) else (inrO (some (Sum.inl (z1183, (IntKind.i64.wrap (z1085 + (1:Int))))))))
noncomputable def command_LayReply_l2 (a1 : api_Reply) (s : (octet_Writer × Int)) : Option ((octet_Writer × Int) ⊕ (octet_Writer)) :=
  match s with | (z1084, z1085) => (bif (decide (z1085 < ((a1.Scans).length : Int))) then ((geto a1.Scans z1085).bind fun x1095 => ((octet_Writer_Num z1084 (IntKind.u64.wrap ((x1095).length : Int)) (4:Int)).bind fun t1106 => (loopO (command_LayReply_l3 x1095 z1085) (t1106, (0:Int))))) else (inrO (some z1084)))
noncomputable def command_LayReply_j0 (a1 : api_Reply) (z803 : (octet_Writer)) : Option (octet_Writer) :=
  ((octet_Writer_Num z803 (IntKind.u64.wrap ((a1.Scans).length : Int)) (4:Int)).bind fun t809 => (loopO (command_LayReply_l2 a1) (t809, (0:Int))))
noncomputable def command_LayReply (a0 : octet_Writer) (a1 : api_Reply) : Option (octet_Writer) :=
  ((octet_Writer_Num a0 (IntKind.u64.wrap a1.E) (1:Int)).bind fun t681 => ((octet_Writer_Num t681 a1.Epoch (8:Int)).bind fun t686 => ((octet_Writer_Num t686 a1.Index (8:Int)).bind fun t691 => ((octet_Writer_Num t691 (IntKind.u64.wrap ((a1.Gots).length : Int)) (4:Int)).bind fun t696 => (((loopO (command_LayReply_l1 a1) (t696, (0:Int)))).bind (command_LayReply_j0 a1))))))

noncomputable def command_writes_l0 (a1 : (List api_Write)) (s : (octet_Writer × Int)) : Option ((octet_Writer × Int) ⊕ (octet_Writer)) :=
  match s with | (z449, z450) => (bif (decide (z450 < ((a1).length : Int))) then ((geto a1 z450).bind fun x460 => ((number_Rank x460.At).bind fun t479 => ((octet_Writer_Num z449 t479 (8:Int)).bind fun t484 => ((octet_Writer_Flag t484 x460.Del).bind fun t489 => ((octet_Writer_Bytes t489 x460.Val).bind fun t494 => (some (Sum.inl (t494, (IntKind.i64.wrap (z450 + (1:Int))))))))))) else (inrO (some z449)))
noncomputable def command_writes (a0 : octet_Writer) (a1 : (List api_Write)) : Option (octet_Writer) :=
  ((octet_Writer_Num a0 (IntKind.u64.wrap ((a1).length : Int)) (4:Int)).bind fun t362 => (loopO (command_writes_l0 a1) (t362, (0:Int))))

noncomputable def command_layRule (a0 : octet_Writer) (a1 : api_Rule) : Option (octet_Writer) :=
  ((octet_Writer_Num a0 a1.ID (8:Int)).bind fun t465 => ((octet_Writer_Num t465 (IntKind.u64.wrap a1.From) (1:Int)).bind fun t470 => ((octet_Writer_Num t470 (IntKind.u64.wrap a1.To) (1:Int)).bind fun t475 => ((number_Rank a1.Lo).bind fun t480 => ((octet_Writer_Num t475 t480 (8:Int)).bind fun t485 => ((number_Rank a1.Hi).bind fun t490 => ((octet_Writer_Num t485 t490 (8:Int)).bind fun t495 => ((octet_Writer_Num t495 a1.Authority (8:Int)).bind fun t500 => ((octet_Writer_Num t500 (IntKind.u64.wrap a1.Quota) (4:Int)).bind fun t505 => (some t505))))))))))

noncomputable def command_Encode_l1 (a0 : api_Command) (s : (octet_Writer × Int)) : Option ((octet_Writer × Int) ⊕ (octet_Writer)) :=
  match s with | (z670, z671) => (bif (decide (z671 < ((a0.Parts).length : Int))) then ((geto a0.Parts z671).bind fun x681 => ((octet_Writer_Num z670 (IntKind.u64.wrap x681.Shard) (1:Int)).bind fun t700 => ((command_writes t700 x681.Writes).bind fun t705 => (some (Sum.inl (t705, (IntKind.i64.wrap (z671 + (1:Int))))))))) else (inrO (some z670)))
noncomputable def command_Encode_j0 (a0 : api_Command) (z710 : (octet_Writer)) : Option ((List Int)) :=
  ((command_LayReply z710 a0.R).bind fun t716 => ((octet_Writer_Done t716).bind fun t721 => (some t721)))
noncomputable def command_Encode (a0 : api_Command) : Option ((List Int)) :=
  ((octet_Writer_Num ({ p := [] } : octet_Writer) (IntKind.u64.wrap a0.Kind) (1:Int)).bind fun t503 => (bif (a0.Kind == (1:Int)) then ((octet_Writer_Num t503 a0.Epoch (8:Int)).bind fun t509 => ((octet_Writer_Done t509).bind fun t514 => (some t514))) else (bif (a0.Kind == (2:Int)) then ((locks_Lay t503 a0.Hold).bind fun t522 => ((octet_Writer_Done t522).bind fun t527 => (some t527))) else (bif (a0.Kind == (3:Int)) then (((octet_Writer_Num t503 a0.ID.Session (8:Int)).bind fun t535 => ((octet_Writer_Num t535 a0.ID.Seq (8:Int)).bind fun t540 => (some t540))).bind fun z545 => ((octet_Writer_Num z545 (IntKind.u64.wrap a0.E) (1:Int)).bind fun t550 => ((octet_Writer_Num t550 a0.Epoch (8:Int)).bind fun t555 => ((octet_Writer_Num t555 a0.Index (8:Int)).bind fun t560 => ((command_writes t560 a0.Writes).bind fun t565 => ((octet_Writer_Done t565).bind fun t570 => (some t570))))))) else (bif (a0.Kind == (4:Int)) then (((octet_Writer_Num t503 a0.ID.Session (8:Int)).bind fun t578 => ((octet_Writer_Num t578 a0.ID.Seq (8:Int)).bind fun t583 => (some t583))).bind fun z588 => ((octet_Writer_Num z588 a0.Epoch (8:Int)).bind fun t593 => ((octet_Writer_Num t593 a0.Shards (2:Int)).bind fun t598 => ((octet_Writer_Num t598 (IntKind.u64.wrap ((a0.Parts).length : Int)) (4:Int)).bind fun t603 => (((loopO (command_Encode_l1 a0) (t603, (0:Int)))).bind (command_Encode_j0 a0)))))) else (bif (a0.Kind == (5:Int)) then (((octet_Writer_Num t503 a0.ID.Session (8:Int)).bind fun t729 => ((octet_Writer_Num t729 a0.ID.Seq (8:Int)).bind fun t734 => (some t734))).bind fun z739 => ((octet_Writer_Done z739).bind fun t744 => (some t744))) else (bif (a0.Kind == (6:Int)) then ((command_layRule t503 a0.Rule).bind fun t752 => ((octet_Writer_Flag t752 a0.On).bind fun t757 => ((octet_Writer_Done t757).bind fun t762 => (some t762)))) else (bif (a0.Kind == (7:Int)) then (((octet_Writer_Num t503 a0.ID.Session (8:Int)).bind fun t770 => ((octet_Writer_Num t770 a0.ID.Seq (8:Int)).bind fun t775 => (some t775))).bind fun z780 => ((octet_Writer_Num z780 a0.Epoch (8:Int)).bind fun t785 => ((command_layRule t785 a0.Rule).bind fun t790 => ((command_writes t790 a0.Writes).bind fun t795 => ((command_LayReply t795 a0.R).bind fun t800 => ((octet_Writer_Done t800).bind fun t805 => (some t805))))))) else ((octet_Writer_Done t503).bind fun t812 => (some t812))))))))))

noncomputable def mail_Encode_j0 (t206 : (octet_Writer)) (a0 : api_Mail) (z225 : (Bool)) : Option ((List Int)) :=
  (bif z225 then ((locks_Lay t206 a0.H).bind fun t232 => ((octet_Writer_Done t232).bind fun t237 => (some t237))) else (bif (a0.Kind == (3:Int)) then ((locks_Lay t206 a0.H).bind fun t245 => ((command_LayReply t245 a0.R).bind fun t250 => ((octet_Writer_Done t250).bind fun t255 => (some t255)))) else (bif (a0.Kind == (4:Int)) then ((command_Encode a0.C).bind fun t263 => ((octet_Writer_Bytes t206 t263).bind fun t272 => ((octet_Writer_Done t272).bind fun t277 => (some t277)))) else (bif (a0.Kind == (5:Int)) then ((octet_Writer_Num t206 a0.ID.Session (8:Int)).bind fun t285 => ((octet_Writer_Num t285 a0.ID.Seq (8:Int)).bind fun t290 => ((octet_Writer_Done t290).bind fun t295 => (some t295)))) else ((octet_Writer_Done t206).bind fun t302 => (some t302))))))
noncomputable def mail_Encode (a0 : api_Mail) : Option ((List Int)) :=
  ((octet_Writer_Num ({ p := [] } : octet_Writer) (IntKind.u64.wrap a0.Kind) (1:Int)).bind fun t206 => (bif (a0.Kind == (1:Int)) then ((mail_message t206 a0.M).bind fun t212 => ((octet_Writer_Done t212).bind fun t217 => (some t217))) else (((bif (a0.Kind == (2:Int)) then (some (a0.Kind == (2:Int))) else (some (a0.Kind == (6:Int))))).bind (mail_Encode_j0 t206 a0))))

noncomputable def law17_awake : Option (Bool) :=
  ((mail_Encode ({ Kind := (5:Int), M := zero_api_Message, H := zero_api_Hold, ID := ({ Session := (1:Int), Seq := (2:Int) } : api_ID), R := zero_api_Reply, C := zero_api_Command } : api_Mail)).bind fun t128 => (bif (sEq (toStr t128) (ByteArray.mk #[5, 1, 0, 0, 0, 0, 0, 0, 0, 2, 0, 0, 0, 0, 0, 0, 0])) then (some true) else (some false)))

noncomputable def ref12_Tape_Next (a0 : ref12_Tape) (a1 : Int) : Option (Int × ref12_Tape) :=
  (bif (decide (a0.I ≥ ((a0.L).length : Int))) then (some ((0:Int), a0)) else ((geto a0.L (IntKind.i64.wrap ((IntKind.i64.wrap (a0.I + (1:Int))) - (1:Int)))).bind fun x70 => (gd (!(a1 == (0:Int))) (some ((Int.tmod (IntKind.i64.wrap x70) a1), ({ L := a0.L, I := (IntKind.i64.wrap (a0.I + (1:Int))) } : ref12_Tape))))))

noncomputable def ref12_Tape_Val_l0 (t232 : (Int × ref12_Tape)) (s : (ref12_Tape × (List Int) × Int)) : Option ((ref12_Tape × (List Int) × Int) ⊕ ((List Int) × ref12_Tape)) :=
  match s with | (z287, z288, z291) => (bif (decide (z291 < t232.1)) then ((ref12_Tape_Next z287 (26:Int)).bind fun t301 => (gd (room z288 ([(IntKind.u8.wrap (IntKind.i64.wrap ((97:Int) + t301.1)))])) (some (Sum.inl (t301.2, (z288 ++ ([(IntKind.u8.wrap (IntKind.i64.wrap ((97:Int) + t301.1)))])), (IntKind.i64.wrap (z291 + (1:Int)))))))) else (inrO (some (z288, z287))))
noncomputable def ref12_Tape_Val (a0 : ref12_Tape) : Option ((List Int) × ref12_Tape) :=
  ((ref12_Tape_Next a0 (4:Int)).bind fun t232 => (loopO (ref12_Tape_Val_l0 t232) (t232.2, [], (0:Int))))

noncomputable def ref12_Tape_Of (a0 : ref12_Tape) : Option (api_ID × ref12_Tape) :=
  ((ref12_Tape_Next a0 (4:Int)).bind fun t377 => ((ref12_Tape_Next t377.2 (4:Int)).bind fun t382 => (some (({ Session := (IntKind.u64.wrap t377.1), Seq := (IntKind.u64.wrap (IntKind.i64.wrap ((1:Int) + t382.1))) } : api_ID), t382.2))))

noncomputable def ref12_small (a0 : Int) : Option (Nat) :=
  ((geto ([(0:Nat), (4607182418800017408:Nat), (13830554455654793216:Nat), (4612811918334230528:Nat), (9094988921128908188:Nat), (18318360957983683996:Nat), (4602678819172646912:Nat), (4613937818241073152:Nat)]) (Int.tmod a0 (8:Int))).bind fun x405 => (some x405))

noncomputable def ref12_Tape_Float (a0 : ref12_Tape) : Option (Nat × ref12_Tape) :=
  ((ref12_Tape_Next a0 (8:Int)).bind fun t396 => ((ref12_small (IntKind.u8.wrap t396.1)).bind fun t401 => (some (t401, t396.2))))

noncomputable def ref12_Tape_Hold_l1 (t752 : (Int × ref12_Tape)) (s : ((List Nat) × ref12_Tape × Int)) : Option (((List Nat) × ref12_Tape × Int) ⊕ (ref12_Tape × (List Nat))) :=
  match s with | (z813, z816, z817) => (bif (decide (z817 < t752.1)) then ((ref12_Tape_Float z816).bind fun t827 => (gd (room z813 ([t827.1])) (some (Sum.inl ((z813 ++ ([t827.1])), t827.2, (IntKind.i64.wrap (z817 + (1:Int)))))))) else (inrO (some (z816, z813))))
noncomputable def ref12_Tape_Hold_l3 (t852 : (Int × ref12_Tape)) (s : ((List (Nat × Nat)) × ref12_Tape × Int)) : Option (((List (Nat × Nat)) × ref12_Tape × Int) ⊕ (ref12_Tape × (List (Nat × Nat)))) :=
  match s with | (z928, z931, z932) => (bif (decide (z932 < (IntKind.i64.wrap (Int.tdiv t852.1 (2:Int))))) then ((ref12_Tape_Float z931).bind fun t942 => ((ref12_Tape_Float t942.2).bind fun t947 => (gd (room z928 ([(t942.1, t947.1)])) (some (Sum.inl ((z928 ++ ([(t942.1, t947.1)])), t947.2, (IntKind.i64.wrap (z932 + (1:Int))))))))) else (inrO (some (z931, z928))))
noncomputable def ref12_Tape_Hold_l5 (t972 : (Int × ref12_Tape)) (s : ((List Nat) × ref12_Tape × Int)) : Option (((List Nat) × ref12_Tape × Int) ⊕ (ref12_Tape × (List Nat))) :=
  match s with | (z1033, z1036, z1037) => (bif (decide (z1037 < t972.1)) then ((ref12_Tape_Float z1036).bind fun t1047 => (gd (room z1033 ([t1047.1])) (some (Sum.inl ((z1033 ++ ([t1047.1])), t1047.2, (IntKind.i64.wrap (z1037 + (1:Int)))))))) else (inrO (some (z1036, z1033))))
noncomputable def ref12_Tape_Hold_j4 (t727 : (api_ID × ref12_Tape)) (t732 : (Int × ref12_Tape)) (z846 : (List Nat)) (z966 : (List (Nat × Nat))) (s : (ref12_Tape × (List Nat))) : Option (api_Hold × ref12_Tape) :=
  match s with | (z1063, z1066) => ((ref12_Tape_Next z1063 (4:Int)).bind fun t1072 => (bif (t1072.1 == (0:Int)) then ((ref12_Tape_Val t1072.2).bind fun t1078 => (some (({ ID := t727.1, Epoch := (IntKind.u64.wrap (IntKind.i64.wrap ((1:Int) + t732.1))), Gets := z846, Scans := z966, Puts := z1066, Data := t1078.1 } : api_Hold), t1078.2))) else (some (({ ID := t727.1, Epoch := (IntKind.u64.wrap (IntKind.i64.wrap ((1:Int) + t732.1))), Gets := z846, Scans := z966, Puts := z1066, Data := [] } : api_Hold), t1072.2))))
noncomputable def ref12_Tape_Hold_j2 (t727 : (api_ID × ref12_Tape)) (t732 : (Int × ref12_Tape)) (z846 : (List Nat)) (s : (ref12_Tape × (List (Nat × Nat)))) : Option (api_Hold × ref12_Tape) :=
  match s with | (z963, z966) => ((ref12_Tape_Next z963 (3:Int)).bind fun t972 => (((loopO (ref12_Tape_Hold_l5 t972) ([], t972.2, (0:Int)))).bind (ref12_Tape_Hold_j4 t727 t732 z846 z966)))
noncomputable def ref12_Tape_Hold_j0 (t727 : (api_ID × ref12_Tape)) (t732 : (Int × ref12_Tape)) (s : (ref12_Tape × (List Nat))) : Option (api_Hold × ref12_Tape) :=
  match s with | (z843, z846) => ((ref12_Tape_Next z843 (3:Int)).bind fun t852 => (((loopO (ref12_Tape_Hold_l3 t852) ([], t852.2, (0:Int)))).bind (ref12_Tape_Hold_j2 t727 t732 z846)))
noncomputable def ref12_Tape_Hold (a0 : ref12_Tape) : Option (api_Hold × ref12_Tape) :=
  ((ref12_Tape_Of a0).bind fun t727 => ((ref12_Tape_Next t727.2 (4:Int)).bind fun t732 => ((ref12_Tape_Next t732.2 (3:Int)).bind fun t752 => (((loopO (ref12_Tape_Hold_l1 t752) ([], t752.2, (0:Int)))).bind (ref12_Tape_Hold_j0 t727 t732)))))

noncomputable def ref13_OfReply_l2 (t1439 : (Int × ref12_Tape)) (s : ((List api_Got) × ref12_Tape × Int)) : Option (((List api_Got) × ref12_Tape × Int) ⊕ (ref12_Tape × (List api_Got))) :=
  match s with | (z1536, z1539, z1540) => (bif (decide (z1540 < t1439.1)) then ((ref12_Tape_Next z1539 (2:Int)).bind fun t1551 => ((ref12_Tape_Val t1551.2).bind fun t1556 => (gd (room z1536 ([({ Has := (t1551.1 == (0:Int)), Val := t1556.1 } : api_Got)])) (some (Sum.inl ((z1536 ++ ([({ Has := (t1551.1 == (0:Int)), Val := t1556.1 } : api_Got)])), t1556.2, (IntKind.i64.wrap (z1540 + (1:Int))))))))) else (inrO (some (z1539, z1536))))
noncomputable def ref13_OfReply_l5 (t2096 : (Int × ref12_Tape)) (s : (ref12_Tape × Int × (List api_Pair))) : Option ((ref12_Tape × Int × (List api_Pair)) ⊕ (ref12_Tape × (List api_Pair))) :=
  match s with | (z2187, z2188, z2189) => (bif (decide (z2188 < t2096.1)) then ((ref12_Tape_Float z2187).bind fun t2202 => ((ref12_Tape_Val t2202.2).bind fun t2207 => (gd (room z2189 ([({ At := t2202.1, Val := t2207.1 } : api_Pair)])) (some (Sum.inl (t2207.2, (IntKind.i64.wrap (z2188 + (1:Int))), (z2189 ++ ([({ At := t2202.1, Val := t2207.1 } : api_Pair)])))))))) else (inrO (some (z2187, z2189))))
noncomputable def ref13_OfReply_j4 (z2080 : (List (List api_Pair))) (z2084 : Int) (s : (ref12_Tape × (List api_Pair))) : Option (((List (List api_Pair)) × ref12_Tape × Int) ⊕ (api_Reply × ref12_Tape)) :=
  match s with | (z2228, z2231) => (gd (room z2080 ([z2231])) (some (Sum.inl ((z2080 ++ ([z2231])), z2228, (IntKind.i64.wrap (z2084 + (1:Int)))))))
noncomputable def ref13_OfReply_l3 (t1590 : (Int × ref12_Tape)) (z1431 : Int) (z1432 : Int) (z1433 : Int) (z1582 : (List api_Got)) (s : ((List (List api_Pair)) × ref12_Tape × Int)) : Option (((List (List api_Pair)) × ref12_Tape × Int) ⊕ (api_Reply × ref12_Tape)) :=
  match s with | (z2080, z2083, z2084) => (bif (decide (z2084 < (IntKind.i64.wrap (Int.tdiv t1590.1 (2:Int))))) then ((ref12_Tape_Next z2083 (3:Int)).bind fun t2096 => (((loopO (ref13_OfReply_l5 t2096) (t2096.2, (0:Int), []))).bind (ref13_OfReply_j4 z2080 z2084))) else (inrO (some (({ E := z1431, Epoch := z1432, Index := z1433, Gots := z1582, Scans := z2080 } : api_Reply), z2083))))
noncomputable def ref13_OfReply_j1 (z1431 : Int) (z1432 : Int) (z1433 : Int) (s : (ref12_Tape × (List api_Got))) : Option (api_Reply × ref12_Tape) :=
  match s with | (z1579, z1582) => ((ref12_Tape_Next z1579 (3:Int)).bind fun t1590 => (loopO (ref13_OfReply_l3 t1590 z1431 z1432 z1433 z1582) ([], t1590.2, (0:Int))))
noncomputable def ref13_OfReply_j0 (s : (ref12_Tape × Int × Int × Int)) : Option (api_Reply × ref12_Tape) :=
  match s with | (z1428, z1431, z1432, z1433) => ((ref12_Tape_Next z1428 (3:Int)).bind fun t1439 => (((loopO (ref13_OfReply_l2 t1439) ([], t1439.2, (0:Int)))).bind (ref13_OfReply_j1 z1431 z1432 z1433)))
noncomputable def ref13_OfReply (a0 : ref12_Tape) : Option (api_Reply × ref12_Tape) :=
  ((((ref12_Tape_Next a0 (6:Int)).bind fun t1329 => ((geto ([(0:Int), (0:Int), (0:Int), (8:Int), (9:Int), (3:Int)]) t1329.1).bind fun x1334 => ((ref12_Tape_Next t1329.2 (4:Int)).bind fun t1339 => ((ref12_Tape_Next t1339.2 (9:Int)).bind fun t1344 => (some (t1344.2, x1334, (IntKind.u64.wrap t1339.1), (IntKind.u64.wrap t1344.1)))))))).bind (ref13_OfReply_j0))

noncomputable def ref13_OfWrites_j1 (z815 : (List api_Write)) (t829 : (Nat × ref12_Tape)) (t834 : (Int × ref12_Tape)) (z818 : Int) (s : (ref12_Tape × (List Int))) : Option ((ref12_Tape × (List api_Write) × Int) ⊕ ((List api_Write) × ref12_Tape)) :=
  match s with | (z858, z861) => (gd (room z815 ([({ At := t829.1, Del := (t834.1 == (0:Int)), Val := z861 } : api_Write)])) (some (Sum.inl (z858, (z815 ++ ([({ At := t829.1, Del := (t834.1 == (0:Int)), Val := z861 } : api_Write)])), (IntKind.i64.wrap (z818 + (1:Int)))))))
noncomputable def ref13_OfWrites_l0 (t648 : (Int × ref12_Tape)) (s : (ref12_Tape × (List api_Write) × Int)) : Option ((ref12_Tape × (List api_Write) × Int) ⊕ ((List api_Write) × ref12_Tape)) :=
  match s with | (z814, z815, z818) => (bif (decide (z818 < t648.1)) then ((ref12_Tape_Float z814).bind fun t829 => ((ref12_Tape_Next t829.2 (4:Int)).bind fun t834 => (((bif (!(t834.1 == (0:Int))) then ((ref12_Tape_Val t834.2).bind fun t849 => (some (t849.2, t849.1))) else (some (t834.2, [])))).bind (ref13_OfWrites_j1 z815 t829 t834 z818)))) else (inrO (some (z815, z814))))
noncomputable def ref13_OfWrites (a0 : ref12_Tape) : Option ((List api_Write) × ref12_Tape) :=
  ((ref12_Tape_Next a0 (3:Int)).bind fun t648 => (loopO (ref13_OfWrites_l0 t648) (t648.2, [], (0:Int))))

noncomputable def law17_make1_l1 (t552 : (Int × ref12_Tape)) (s : ((List api_Entry) × ref12_Tape × Int)) : Option (((List api_Entry) × ref12_Tape × Int) ⊕ (ref12_Tape × (List api_Entry))) :=
  match s with | (z664, z667, z668) => (bif (decide (z668 < t552.1)) then ((ref12_Tape_Next z667 (9:Int)).bind fun t679 => ((ref12_Tape_Next t679.2 (2:Int)).bind fun t684 => ((ref12_Tape_Val t684.2).bind fun t689 => (gd (room z664 ([({ Index := (IntKind.u64.wrap z668), Term := (IntKind.u64.wrap t679.1), Kind := (IntKind.u8.wrap t684.1), Data := t689.1 } : api_Entry)])) (some (Sum.inl ((z664 ++ ([({ Index := (IntKind.u64.wrap z668), Term := (IntKind.u64.wrap t679.1), Kind := (IntKind.u8.wrap t684.1), Data := t689.1 } : api_Entry)])), t689.2, (IntKind.i64.wrap (z668 + (1:Int)))))))))) else (inrO (some (z667, z664))))
noncomputable def law17_make1_j0 (t463 : (Int × ref12_Tape)) (t508 : (Int × ref12_Tape)) (t513 : (Int × ref12_Tape)) (t518 : (Int × ref12_Tape)) (t523 : (Int × ref12_Tape)) (t528 : (Int × ref12_Tape)) (t533 : (Int × ref12_Tape)) (t538 : (Int × ref12_Tape)) (t543 : (Int × ref12_Tape)) (s : (ref12_Tape × (List api_Entry))) : Option (api_Mail × ref12_Tape) :=
  match s with | (z712, z715) => ((ref12_Tape_Next z712 (9:Int)).bind fun t723 => ((ref12_Tape_Next t723.2 (9:Int)).bind fun t728 => ((ref12_Tape_Next t728.2 (9:Int)).bind fun t733 => ((ref12_Tape_Val t733.2).bind fun t738 => (some (({ Kind := (IntKind.u8.wrap (IntKind.i64.wrap ((1:Int) + t463.1))), M := ({ Kind := (IntKind.u8.wrap (IntKind.i64.wrap ((1:Int) + t508.1))), From := t513.1, To := t518.1, Term := (IntKind.u64.wrap t523.1), Index := (IntKind.u64.wrap t528.1), LogTerm := (IntKind.u64.wrap t533.1), Commit := (IntKind.u64.wrap t538.1), OK := (t543.1 == (0:Int)), Entries := z715, S := ({ Index := (IntKind.u64.wrap t723.1), Term := (IntKind.u64.wrap t728.1), Voters := (IntKind.u64.wrap t733.1), Data := t738.1 } : api_Snap) } : api_Message), H := zero_api_Hold, ID := ({ Session := (0:Int), Seq := (0:Int) } : api_ID), R := zero_api_Reply, C := zero_api_Command } : api_Mail), t738.2))))))
noncomputable def law17_make1_j2 (t463 : (Int × ref12_Tape)) (z751 : (Bool)) : Option (api_Mail × ref12_Tape) :=
  (bif z751 then ((ref12_Tape_Hold t463.2).bind fun t758 => (some (({ Kind := (IntKind.u8.wrap (IntKind.i64.wrap ((1:Int) + t463.1))), M := zero_api_Message, H := t758.1, ID := ({ Session := (0:Int), Seq := (0:Int) } : api_ID), R := zero_api_Reply, C := zero_api_Command } : api_Mail), t758.2))) else (bif ((IntKind.u8.wrap (IntKind.i64.wrap ((1:Int) + t463.1))) == (3:Int)) then ((ref12_Tape_Hold t463.2).bind fun t776 => ((ref13_OfReply t776.2).bind fun t791 => (some (({ Kind := (IntKind.u8.wrap (IntKind.i64.wrap ((1:Int) + t463.1))), M := zero_api_Message, H := t776.1, ID := ({ Session := (0:Int), Seq := (0:Int) } : api_ID), R := t791.1, C := zero_api_Command } : api_Mail), t791.2)))) else (bif ((IntKind.u8.wrap (IntKind.i64.wrap ((1:Int) + t463.1))) == (4:Int)) then ((ref12_Tape_Of t463.2).bind fun t805 => ((ref12_Tape_Next t805.2 (9:Int)).bind fun t810 => ((ref12_Tape_Next t810.2 (9:Int)).bind fun t815 => ((ref12_Tape_Next t815.2 (9:Int)).bind fun t820 => ((ref13_OfWrites t820.2).bind fun t825 => (some (({ Kind := (IntKind.u8.wrap (IntKind.i64.wrap ((1:Int) + t463.1))), M := zero_api_Message, H := zero_api_Hold, ID := ({ Session := (0:Int), Seq := (0:Int) } : api_ID), R := zero_api_Reply, C := ({ Kind := (3:Int), ID := t805.1, Epoch := (IntKind.u64.wrap t815.1), Index := (IntKind.u64.wrap t820.1), E := t810.1, Hold := zero_api_Hold, Writes := t825.1, R := zero_api_Reply, Shards := (0:Int), Parts := [], Rule := zero_api_Rule, On := false } : api_Command) } : api_Mail), t825.2))))))) else (bif ((IntKind.u8.wrap (IntKind.i64.wrap ((1:Int) + t463.1))) == (5:Int)) then ((ref12_Tape_Of t463.2).bind fun t845 => (some (({ Kind := (IntKind.u8.wrap (IntKind.i64.wrap ((1:Int) + t463.1))), M := zero_api_Message, H := zero_api_Hold, ID := t845.1, R := zero_api_Reply, C := zero_api_Command } : api_Mail), t845.2))) else (some (({ Kind := (IntKind.u8.wrap (IntKind.i64.wrap ((1:Int) + t463.1))), M := zero_api_Message, H := zero_api_Hold, ID := ({ Session := (0:Int), Seq := (0:Int) } : api_ID), R := zero_api_Reply, C := zero_api_Command } : api_Mail), t463.2))))))
noncomputable def law17_make1 (a0 : ref12_Tape) : Option (api_Mail × ref12_Tape) :=
  ((ref12_Tape_Next a0 (6:Int)).bind fun t463 => (bif ((IntKind.u8.wrap (IntKind.i64.wrap ((1:Int) + t463.1))) == (1:Int)) then ((ref12_Tape_Next t463.2 (7:Int)).bind fun t508 => ((ref12_Tape_Next t508.2 (5:Int)).bind fun t513 => ((ref12_Tape_Next t513.2 (5:Int)).bind fun t518 => ((ref12_Tape_Next t518.2 (250:Int)).bind fun t523 => ((ref12_Tape_Next t523.2 (250:Int)).bind fun t528 => ((ref12_Tape_Next t528.2 (9:Int)).bind fun t533 => ((ref12_Tape_Next t533.2 (99:Int)).bind fun t538 => ((ref12_Tape_Next t538.2 (2:Int)).bind fun t543 => ((ref12_Tape_Next t543.2 (4:Int)).bind fun t552 => (((loopO (law17_make1_l1 t552) ([], t552.2, (0:Int)))).bind (law17_make1_j0 t463 t508 t513 t518 t523 t528 t533 t538 t543))))))))))) else (((bif ((IntKind.u8.wrap (IntKind.i64.wrap ((1:Int) + t463.1))) == (2:Int)) then (some ((IntKind.u8.wrap (IntKind.i64.wrap ((1:Int) + t463.1))) == (2:Int))) else (some ((IntKind.u8.wrap (IntKind.i64.wrap ((1:Int) + t463.1))) == (6:Int))))).bind (law17_make1_j2 t463))))

noncomputable def octet_Read (a0 : (List Int)) : Option (octet_Reader) :=
  (some ({ p := a0, bad := false } : octet_Reader))

noncomputable def octet_Reader_spoil (a0 : octet_Reader) : Option (octet_Reader) :=
  (some ({ p := a0.p, bad := true } : octet_Reader))

noncomputable def octet_Reader_Num_l1 (a1 : Int) (a0 : octet_Reader) (s : (Int × Int)) : Option ((Int × Int) ⊕ (Int)) :=
  match s with | (z293, z294) => (bif (decide (z293 < (if (8:Int) < a1 then (8:Int) else a1))) then ((geto a0.p z293).bind fun x309 => (gd (decide ((0:Int) ≤ (IntKind.i64.wrap ((8:Int) * z293)))) (some (Sum.inl ((IntKind.i64.wrap (z293 + (1:Int))), (bOr .u64 z294 (iShl .u64 (IntKind.u64.wrap x309) (IntKind.i64.wrap ((8:Int) * z293))))))))) else (inrO (some z294)))
noncomputable def octet_Reader_Num_j0 (a0 : octet_Reader) (a1 : Int) (z315 : (Int)) : Option (Int × octet_Reader) :=
  (gd (fits a0.p a1 (((a0.p).length : Nat) : Int)) (some (z315, ({ p := (subs a0.p a1 (((a0.p).length : Nat) : Int)), bad := a0.bad } : octet_Reader))))
noncomputable def octet_Reader_Num (a0 : octet_Reader) (a1 : Int) : Option (Int × octet_Reader) :=
  (bif a0.bad then ((octet_Reader_spoil a0).bind fun t250 => (some ((0:Int), t250))) else (bif (decide (a1 < (0:Int))) then ((octet_Reader_spoil a0).bind fun t256 => (some ((0:Int), t256))) else (bif (decide (((a0.p).length : Int) < a1)) then ((octet_Reader_spoil a0).bind fun t262 => (some ((0:Int), t262))) else (((loopO (octet_Reader_Num_l1 a1 a0) ((0:Int), (0:Int)))).bind (octet_Reader_Num_j0 a0 a1)))))

noncomputable def octet_Reader_Flag (a0 : octet_Reader) : Option (Bool × octet_Reader) :=
  ((octet_Reader_Num a0 (1:Int)).bind fun t255 => (bif (decide (t255.1 > (1:Int))) then ((octet_Reader_spoil t255.2).bind fun t261 => (some (false, t261))) else (some ((t255.1 == (1:Int)), t255.2))))

noncomputable def octet_Reader_Bad (a0 : octet_Reader) : Option (Bool) :=
  (some a0.bad)

noncomputable def octet_Reader_Left (a0 : octet_Reader) : Option (Int) :=
  ((octet_Reader_Bad a0).bind fun t270 => (bif t270 then (some (0:Int)) else (some ((a0.p).length : Int))))

noncomputable def octet_Reader_Count (a0 : octet_Reader) (a1 : Int) : Option (Int × octet_Reader) :=
  ((octet_Reader_Num a0 (4:Int)).bind fun t282 => (bif (decide (a1 < (0:Int))) then ((octet_Reader_spoil t282.2).bind fun t288 => (some ((0:Int), t288))) else (bif (decide (t282.1 > (IntKind.u64.wrap a1))) then ((octet_Reader_spoil t282.2).bind fun t294 => (some ((0:Int), t294))) else (some ((IntKind.i64.wrap t282.1), t282.2)))))

noncomputable def octet_Reader_Bytes (a0 : octet_Reader) (a1 : Int) : Option ((List Int) × octet_Reader) :=
  ((octet_Reader_Num a0 (4:Int)).bind fun t329 => (bif t329.2.bad then ((octet_Reader_spoil t329.2).bind fun t339 => (some ([], t339))) else (bif (decide (a1 < (0:Int))) then ((octet_Reader_spoil t329.2).bind fun t346 => (some ([], t346))) else (bif (decide (t329.1 > (IntKind.u64.wrap a1))) then ((octet_Reader_spoil t329.2).bind fun t353 => (some ([], t353))) else (bif (decide (t329.1 > (IntKind.u64.wrap ((t329.2.p).length : Int)))) then ((octet_Reader_spoil t329.2).bind fun t360 => (some ([], t360))) else (gd (fits t329.2.p (0:Int) t329.1) (gd (room ([] : List Int) (subs t329.2.p (0:Int) t329.1)) (gd (fits t329.2.p t329.1 (((t329.2.p).length : Nat) : Int)) (some ((subs t329.2.p (0:Int) t329.1), ({ p := (subs t329.2.p t329.1 (((t329.2.p).length : Nat) : Int)), bad := t329.2.bad } : octet_Reader)))))))))))

noncomputable def mail_readMessage_l1 (t545 : (Int × octet_Reader)) (s : ((List api_Entry) × octet_Reader × Int)) : Option (((List api_Entry) × octet_Reader × Int) ⊕ (octet_Reader × (List api_Entry))) :=
  match s with | (z672, z675, z676) => (bif (decide (z676 < t545.1)) then ((octet_Reader_Num z675 (8:Int)).bind fun t687 => ((octet_Reader_Num t687.2 (8:Int)).bind fun t692 => ((octet_Reader_Num t692.2 (1:Int)).bind fun t697 => ((octet_Reader_Bytes t697.2 (1048576:Int)).bind fun t702 => (gd (room z672 ([({ Index := t687.1, Term := t692.1, Kind := (IntKind.u8.wrap t697.1), Data := t702.1 } : api_Entry)])) (some (Sum.inl ((z672 ++ ([({ Index := t687.1, Term := t692.1, Kind := (IntKind.u8.wrap t697.1), Data := t702.1 } : api_Entry)])), t702.2, (IntKind.i64.wrap (z676 + (1:Int))))))))))) else (inrO (some (z675, z672))))
noncomputable def mail_readMessage_j0 (t489 : (Int × octet_Reader)) (t494 : (Int × octet_Reader)) (t499 : (Int × octet_Reader)) (t504 : (Int × octet_Reader)) (t509 : (Int × octet_Reader)) (t514 : (Int × octet_Reader)) (t519 : (Int × octet_Reader)) (t524 : (Bool × octet_Reader)) (s : (octet_Reader × (List api_Entry))) : Option (api_Message × octet_Reader) :=
  match s with | (z725, z728) => ((octet_Reader_Num z725 (8:Int)).bind fun t736 => ((octet_Reader_Num t736.2 (8:Int)).bind fun t741 => ((octet_Reader_Num t741.2 (8:Int)).bind fun t746 => ((octet_Reader_Bytes t746.2 (1048576:Int)).bind fun t751 => (some (({ Kind := (IntKind.u8.wrap t489.1), From := (IntKind.i64.wrap t494.1), To := (IntKind.i64.wrap t499.1), Term := t504.1, Index := t509.1, LogTerm := t514.1, Commit := t519.1, OK := t524.1, Entries := z728, S := ({ Index := t736.1, Term := t741.1, Voters := t746.1, Data := t751.1 } : api_Snap) } : api_Message), t751.2))))))
noncomputable def mail_readMessage (a0 : octet_Reader) : Option (api_Message × octet_Reader) :=
  ((octet_Reader_Num a0 (1:Int)).bind fun t489 => ((octet_Reader_Num t489.2 (1:Int)).bind fun t494 => ((octet_Reader_Num t494.2 (1:Int)).bind fun t499 => ((octet_Reader_Num t499.2 (8:Int)).bind fun t504 => ((octet_Reader_Num t504.2 (8:Int)).bind fun t509 => ((octet_Reader_Num t509.2 (8:Int)).bind fun t514 => ((octet_Reader_Num t514.2 (8:Int)).bind fun t519 => ((octet_Reader_Flag t519.2).bind fun t524 => ((((octet_Reader_Left t524.2).bind fun t540 => ((octet_Reader_Count t524.2 t540).bind fun t545 => (loopO (mail_readMessage_l1 t545) ([], t545.2, (0:Int)))))).bind (mail_readMessage_j0 t489 t494 t499 t504 t509 t514 t519 t524))))))))))

noncomputable def number_Back (a0 : Int) : Option (Nat) :=
  (bif ((iShr .u64 a0 (63:Int)) == (1:Int)) then (some (Int.toNat (bAndNot .u64 a0 (9223372036854775808:Int)))) else (some (Int.toNat (bXor .u64 ((18446744073709551615):Int) a0))))

noncomputable def locks_Read_l1 (t709 : (Int × octet_Reader)) (s : ((List Nat) × octet_Reader × Int)) : Option (((List Nat) × octet_Reader × Int) ⊕ (octet_Reader × (List Nat))) :=
  match s with | (z785, z788, z789) => (bif (decide (z789 < t709.1)) then ((octet_Reader_Num z788 (8:Int)).bind fun t799 => ((number_Back t799.1).bind fun t804 => (gd (room z785 ([t804])) (some (Sum.inl ((z785 ++ ([t804])), t799.2, (IntKind.i64.wrap (z789 + (1:Int))))))))) else (inrO (some (z788, z785))))
noncomputable def locks_Read_l3 (t829 : (Int × octet_Reader)) (s : ((List (Nat × Nat)) × octet_Reader × Int)) : Option (((List (Nat × Nat)) × octet_Reader × Int) ⊕ (octet_Reader × (List (Nat × Nat)))) :=
  match s with | (z935, z938, z939) => (bif (decide (z939 < t829.1)) then ((octet_Reader_Num z938 (8:Int)).bind fun t949 => ((number_Back t949.1).bind fun t954 => ((octet_Reader_Num t949.2 (8:Int)).bind fun t959 => ((number_Back t959.1).bind fun t964 => (gd (room z935 ([(t954, t964)])) (some (Sum.inl ((z935 ++ ([(t954, t964)])), t959.2, (IntKind.i64.wrap (z939 + (1:Int))))))))))) else (inrO (some (z938, z935))))
noncomputable def locks_Read_l5 (t989 : (Int × octet_Reader)) (s : ((List Nat) × octet_Reader × Int)) : Option (((List Nat) × octet_Reader × Int) ⊕ (octet_Reader × (List Nat))) :=
  match s with | (z1065, z1068, z1069) => (bif (decide (z1069 < t989.1)) then ((octet_Reader_Num z1068 (8:Int)).bind fun t1079 => ((number_Back t1079.1).bind fun t1084 => (gd (room z1065 ([t1084])) (some (Sum.inl ((z1065 ++ ([t1084])), t1079.2, (IntKind.i64.wrap (z1069 + (1:Int))))))))) else (inrO (some (z1068, z1065))))
noncomputable def locks_Read_j4 (t679 : (Int × octet_Reader)) (t684 : (Int × octet_Reader)) (t689 : (Int × octet_Reader)) (z823 : (List Nat)) (z983 : (List (Nat × Nat))) (s : (octet_Reader × (List Nat))) : Option (api_Hold × octet_Reader) :=
  match s with | (z1100, z1103) => ((octet_Reader_Bytes z1100 (257:Int)).bind fun t1109 => (some (({ ID := ({ Session := t679.1, Seq := t684.1 } : api_ID), Epoch := t689.1, Gets := z823, Scans := z983, Puts := z1103, Data := t1109.1 } : api_Hold), t1109.2)))
noncomputable def locks_Read_j2 (t679 : (Int × octet_Reader)) (t684 : (Int × octet_Reader)) (t689 : (Int × octet_Reader)) (z823 : (List Nat)) (s : (octet_Reader × (List (Nat × Nat)))) : Option (api_Hold × octet_Reader) :=
  match s with | (z980, z983) => ((((octet_Reader_Count z980 (32:Int)).bind fun t989 => (loopO (locks_Read_l5 t989) ([], t989.2, (0:Int))))).bind (locks_Read_j4 t679 t684 t689 z823 z983))
noncomputable def locks_Read_j0 (t679 : (Int × octet_Reader)) (t684 : (Int × octet_Reader)) (t689 : (Int × octet_Reader)) (s : (octet_Reader × (List Nat))) : Option (api_Hold × octet_Reader) :=
  match s with | (z820, z823) => ((((octet_Reader_Count z820 (32:Int)).bind fun t829 => (loopO (locks_Read_l3 t829) ([], t829.2, (0:Int))))).bind (locks_Read_j2 t679 t684 t689 z823))
noncomputable def locks_Read (a0 : octet_Reader) : Option (api_Hold × octet_Reader) :=
  ((octet_Reader_Num a0 (8:Int)).bind fun t679 => ((octet_Reader_Num t679.2 (8:Int)).bind fun t684 => ((octet_Reader_Num t684.2 (8:Int)).bind fun t689 => ((((octet_Reader_Count t689.2 (32:Int)).bind fun t709 => (loopO (locks_Read_l1 t709) ([], t709.2, (0:Int))))).bind (locks_Read_j0 t679 t684 t689)))))

noncomputable def command_ReadReply_l1 (t1214 : (Int × octet_Reader)) (s : ((List api_Got) × octet_Reader × Int)) : Option (((List api_Got) × octet_Reader × Int) ⊕ (octet_Reader × (List api_Got))) :=
  match s with | (z1311, z1314, z1315) => (bif (decide (z1315 < t1214.1)) then ((octet_Reader_Flag z1314).bind fun t1326 => ((octet_Reader_Bytes t1326.2 (256:Int)).bind fun t1331 => (gd (room z1311 ([({ Has := t1326.1, Val := t1331.1 } : api_Got)])) (some (Sum.inl ((z1311 ++ ([({ Has := t1326.1, Val := t1331.1 } : api_Got)])), t1331.2, (IntKind.i64.wrap (z1315 + (1:Int))))))))) else (inrO (some (z1314, z1311))))
noncomputable def command_ReadReply_l4 (t1931 : (Int × octet_Reader)) (s : (octet_Reader × Int × (List api_Pair))) : Option ((octet_Reader × Int × (List api_Pair)) ⊕ (octet_Reader × (List api_Pair))) :=
  match s with | (z2037, z2038, z2039) => (bif (decide (z2038 < t1931.1)) then ((octet_Reader_Num z2037 (8:Int)).bind fun t2052 => ((number_Back t2052.1).bind fun t2057 => ((octet_Reader_Bytes t2052.2 (256:Int)).bind fun t2062 => (gd (room z2039 ([({ At := t2057, Val := t2062.1 } : api_Pair)])) (some (Sum.inl (t2062.2, (IntKind.i64.wrap (z2038 + (1:Int))), (z2039 ++ ([({ At := t2057, Val := t2062.1 } : api_Pair)]))))))))) else (inrO (some (z2037, z2039))))
noncomputable def command_ReadReply_j3 (z1915 : (List (List api_Pair))) (z1919 : Int) (s : (octet_Reader × (List api_Pair))) : Option (((List (List api_Pair)) × octet_Reader × Int) ⊕ (api_Reply × octet_Reader)) :=
  match s with | (z2083, z2086) => (gd (room z1915 ([z2086])) (some (Sum.inl ((z1915 ++ ([z2086])), z2083, (IntKind.i64.wrap (z1919 + (1:Int)))))))
noncomputable def command_ReadReply_l2 (t1365 : (Int × octet_Reader)) (t1188 : (Int × octet_Reader)) (t1193 : (Int × octet_Reader)) (t1198 : (Int × octet_Reader)) (z1357 : (List api_Got)) (s : ((List (List api_Pair)) × octet_Reader × Int)) : Option (((List (List api_Pair)) × octet_Reader × Int) ⊕ (api_Reply × octet_Reader)) :=
  match s with | (z1915, z1918, z1919) => (bif (decide (z1919 < t1365.1)) then ((((octet_Reader_Count z1918 (64:Int)).bind fun t1931 => (loopO (command_ReadReply_l4 t1931) (t1931.2, (0:Int), [])))).bind (command_ReadReply_j3 z1915 z1919)) else (inrO (some (({ E := (IntKind.i64.wrap t1188.1), Epoch := t1193.1, Index := t1198.1, Gots := z1357, Scans := z1915 } : api_Reply), z1918))))
noncomputable def command_ReadReply_j0 (t1188 : (Int × octet_Reader)) (t1193 : (Int × octet_Reader)) (t1198 : (Int × octet_Reader)) (s : (octet_Reader × (List api_Got))) : Option (api_Reply × octet_Reader) :=
  match s with | (z1354, z1357) => ((octet_Reader_Count z1354 (32:Int)).bind fun t1365 => (loopO (command_ReadReply_l2 t1365 t1188 t1193 t1198 z1357) ([], t1365.2, (0:Int))))
noncomputable def command_ReadReply (a0 : octet_Reader) : Option (api_Reply × octet_Reader) :=
  ((octet_Reader_Num a0 (1:Int)).bind fun t1188 => ((octet_Reader_Num t1188.2 (8:Int)).bind fun t1193 => ((octet_Reader_Num t1193.2 (8:Int)).bind fun t1198 => ((((octet_Reader_Count t1198.2 (32:Int)).bind fun t1214 => (loopO (command_ReadReply_l1 t1214) ([], t1214.2, (0:Int))))).bind (command_ReadReply_j0 t1188 t1193 t1198)))))

noncomputable def command_readWrites_l0 (t571 : (Int × octet_Reader)) (s : (octet_Reader × (List api_Write) × Int)) : Option ((octet_Reader × (List api_Write) × Int) ⊕ ((List api_Write) × octet_Reader)) :=
  match s with | (z692, z693, z696) => (bif (decide (z696 < t571.1)) then ((octet_Reader_Num z692 (8:Int)).bind fun t707 => ((number_Back t707.1).bind fun t712 => ((octet_Reader_Flag t707.2).bind fun t717 => ((octet_Reader_Bytes t717.2 (256:Int)).bind fun t722 => (gd (room z693 ([({ At := t712, Del := t717.1, Val := t722.1 } : api_Write)])) (some (Sum.inl (t722.2, (z693 ++ ([({ At := t712, Del := t717.1, Val := t722.1 } : api_Write)])), (IntKind.i64.wrap (z696 + (1:Int))))))))))) else (inrO (some (z693, z692))))
noncomputable def command_readWrites (a0 : octet_Reader) : Option ((List api_Write) × octet_Reader) :=
  ((octet_Reader_Count a0 (32:Int)).bind fun t571 => (loopO (command_readWrites_l0 t571) (t571.2, [], (0:Int))))

noncomputable def command_readRule (a0 : octet_Reader) : Option (api_Rule × octet_Reader) :=
  ((octet_Reader_Num a0 (8:Int)).bind fun t678 => ((octet_Reader_Num t678.2 (1:Int)).bind fun t683 => ((octet_Reader_Num t683.2 (1:Int)).bind fun t688 => ((octet_Reader_Num t688.2 (8:Int)).bind fun t693 => ((number_Back t693.1).bind fun t698 => ((octet_Reader_Num t693.2 (8:Int)).bind fun t703 => ((number_Back t703.1).bind fun t708 => ((octet_Reader_Num t703.2 (8:Int)).bind fun t713 => ((octet_Reader_Num t713.2 (4:Int)).bind fun t718 => (some (({ ID := t678.1, From := (IntKind.i64.wrap t683.1), To := (IntKind.i64.wrap t688.1), Lo := t698, Hi := t708, Authority := t713.1, Quota := (IntKind.i64.wrap t718.1) } : api_Rule), t718.2)))))))))))

noncomputable def octet_Reader_End (a0 : octet_Reader) : Option (Bool) :=
  ((octet_Reader_Bad a0).bind fun t734 => (bif (!t734) then (some (((a0.p).length : Int) == (0:Int))) else (some false)))

noncomputable def slices_Equal_byte_byte_l0 (a0 : (List Int)) (a1 : (List Int)) (z838 : (Int)) : Option ((Int) ⊕ (Bool)) :=
  (bif (decide (z838 < ((a0).length : Int))) then ((geto a0 z838).bind fun x848 => ((geto a1 z838).bind fun x853 => (bif (x848 != x853) then (inrO (some false)) else (some (Sum.inl (IntKind.i64.wrap (z838 + (1:Int)))))))) else (inrO (some true)))
noncomputable def slices_Equal_byte_byte (a0 : (List Int)) (a1 : (List Int)) : Option (Bool) :=
  (bif (((a0).length : Int) != ((a1).length : Int)) then (some false) else (loopO (slices_Equal_byte_byte_l0 a0 a1) (0:Int)))

noncomputable def command_Decode_l2 (t949 : (Int × octet_Reader)) (s : ((List api_Part) × octet_Reader × Int)) : Option (((List api_Part) × octet_Reader × Int) ⊕ (octet_Reader × (List api_Part))) :=
  match s with | (z1046, z1049, z1050) => (bif (decide (z1050 < t949.1)) then ((octet_Reader_Num z1049 (1:Int)).bind fun t1061 => ((command_readWrites t1061.2).bind fun t1066 => (gd (room z1046 ([({ Shard := (IntKind.i64.wrap t1061.1), Writes := t1066.1 } : api_Part)])) (some (Sum.inl ((z1046 ++ ([({ Shard := (IntKind.i64.wrap t1061.1), Writes := t1066.1 } : api_Part)])), t1066.2, (IntKind.i64.wrap (z1050 + (1:Int))))))))) else (inrO (some (z1049, z1046))))
noncomputable def command_Decode_j1 (t813 : (Int × octet_Reader)) (z929 : Int) (z930 : Int) (t935 : (Int × octet_Reader)) (t940 : (Int × octet_Reader)) (s : (octet_Reader × (List api_Part))) : Option ((octet_Reader × api_Command) ⊕ (api_Command × Int)) :=
  match s with | (z1089, z1092) => ((command_ReadReply z1089).bind fun t1100 => (some (Sum.inl (t1100.2, ({ Kind := (IntKind.u8.wrap t813.1), ID := ({ Session := z929, Seq := z930 } : api_ID), Epoch := t935.1, Index := (0:Int), E := (0:Int), Hold := zero_api_Hold, Writes := [], R := t1100.1, Shards := t940.1, Parts := z1092, Rule := zero_api_Rule, On := false } : api_Command)))))
noncomputable def command_Decode_j0 (a0 : (List Int)) (s : (octet_Reader × api_Command)) : Option (api_Command × Int) :=
  match s with | (z1210, z1211) => ((octet_Reader_End z1210).bind fun t1235 => (bif (!t1235) then (some (zero_api_Command, (5:Int))) else ((command_Encode z1211).bind fun t1267 => ((slices_Equal_byte_byte t1267 a0).bind fun t1276 => (bif (!t1276) then (some (zero_api_Command, (5:Int))) else (some (z1211, (0:Int))))))))
noncomputable def command_Decode (a0 : (List Int)) : Option (api_Command × Int) :=
  ((octet_Read a0).bind fun t795 => ((octet_Reader_Num t795 (1:Int)).bind fun t813 => (joinO (bif ((IntKind.u8.wrap t813.1) == (1:Int)) then ((octet_Reader_Num t813.2 (8:Int)).bind fun t842 => (some (Sum.inl (t842.2, ({ Kind := (IntKind.u8.wrap t813.1), ID := ({ Session := (0:Int), Seq := (0:Int) } : api_ID), Epoch := t842.1, Index := (0:Int), E := (0:Int), Hold := zero_api_Hold, Writes := [], R := zero_api_Reply, Shards := (0:Int), Parts := [], Rule := zero_api_Rule, On := false } : api_Command))))) else (bif ((IntKind.u8.wrap t813.1) == (2:Int)) then ((locks_Read t813.2).bind fun t850 => (some (Sum.inl (t850.2, ({ Kind := (IntKind.u8.wrap t813.1), ID := ({ Session := (0:Int), Seq := (0:Int) } : api_ID), Epoch := (0:Int), Index := (0:Int), E := (0:Int), Hold := t850.1, Writes := [], R := zero_api_Reply, Shards := (0:Int), Parts := [], Rule := zero_api_Rule, On := false } : api_Command))))) else (bif ((IntKind.u8.wrap t813.1) == (3:Int)) then (((octet_Reader_Num t813.2 (8:Int)).bind fun t866 => ((octet_Reader_Num t866.2 (8:Int)).bind fun t871 => (some (t871.2, t866.1, t871.1)))).bind fun (z878, z879, z880) => ((octet_Reader_Num z878 (1:Int)).bind fun t885 => ((octet_Reader_Num t885.2 (8:Int)).bind fun t890 => ((octet_Reader_Num t890.2 (8:Int)).bind fun t895 => ((command_readWrites t895.2).bind fun t906 => (some (Sum.inl (t906.2, ({ Kind := (IntKind.u8.wrap t813.1), ID := ({ Session := z879, Seq := z880 } : api_ID), Epoch := t890.1, Index := t895.1, E := (IntKind.i64.wrap t885.1), Hold := zero_api_Hold, Writes := t906.1, R := zero_api_Reply, Shards := (0:Int), Parts := [], Rule := zero_api_Rule, On := false } : api_Command))))))))) else (bif ((IntKind.u8.wrap t813.1) == (4:Int)) then (((octet_Reader_Num t813.2 (8:Int)).bind fun t916 => ((octet_Reader_Num t916.2 (8:Int)).bind fun t921 => (some (t921.2, t916.1, t921.1)))).bind fun (z928, z929, z930) => ((octet_Reader_Num z928 (8:Int)).bind fun t935 => ((octet_Reader_Num t935.2 (2:Int)).bind fun t940 => ((((octet_Reader_Count t940.2 (8:Int)).bind fun t949 => (loopO (command_Decode_l2 t949) ([], t949.2, (0:Int))))).bind (command_Decode_j1 t813 z929 z930 t935 t940))))) else (bif ((IntKind.u8.wrap t813.1) == (5:Int)) then (((octet_Reader_Num t813.2 (8:Int)).bind fun t1112 => ((octet_Reader_Num t1112.2 (8:Int)).bind fun t1117 => (some (t1117.2, t1112.1, t1117.1)))).bind fun (z1124, z1125, z1126) => (some (Sum.inl (z1124, ({ Kind := (IntKind.u8.wrap t813.1), ID := ({ Session := z1125, Seq := z1126 } : api_ID), Epoch := (0:Int), Index := (0:Int), E := (0:Int), Hold := zero_api_Hold, Writes := [], R := zero_api_Reply, Shards := (0:Int), Parts := [], Rule := zero_api_Rule, On := false } : api_Command))))) else (bif ((IntKind.u8.wrap t813.1) == (6:Int)) then ((command_readRule t813.2).bind fun t1132 => ((octet_Reader_Flag t1132.2).bind fun t1139 => (some (Sum.inl (t1139.2, ({ Kind := (IntKind.u8.wrap t813.1), ID := ({ Session := (0:Int), Seq := (0:Int) } : api_ID), Epoch := (0:Int), Index := (0:Int), E := (0:Int), Hold := zero_api_Hold, Writes := [], R := zero_api_Reply, Shards := (0:Int), Parts := [], Rule := t1132.1, On := t1139.1 } : api_Command)))))) else (bif ((IntKind.u8.wrap t813.1) == (7:Int)) then (((octet_Reader_Num t813.2 (8:Int)).bind fun t1147 => ((octet_Reader_Num t1147.2 (8:Int)).bind fun t1152 => (some (t1152.2, t1147.1, t1152.1)))).bind fun (z1159, z1160, z1161) => ((octet_Reader_Num z1159 (8:Int)).bind fun t1166 => ((command_readRule t1166.2).bind fun t1173 => ((command_readWrites t1173.2).bind fun t1180 => ((command_ReadReply t1180.2).bind fun t1189 => (some (Sum.inl (t1189.2, ({ Kind := (IntKind.u8.wrap t813.1), ID := ({ Session := z1160, Seq := z1161 } : api_ID), Epoch := t1166.1, Index := (0:Int), E := (0:Int), Hold := zero_api_Hold, Writes := t1180.1, R := t1189.1, Shards := (0:Int), Parts := [], Rule := t1173.1, On := false } : api_Command))))))))) else (inrO (some (zero_api_Command, (5:Int))))))))))) (command_Decode_j0 a0))))

noncomputable def mail_Decode_j1 (t539 : (Int × octet_Reader)) (z596 : (Bool)) : Option ((octet_Reader × api_Mail) ⊕ (api_Mail × Int)) :=
  (bif z596 then ((locks_Read t539.2).bind fun t603 => (some (Sum.inl (t603.2, ({ Kind := (IntKind.u8.wrap t539.1), M := zero_api_Message, H := t603.1, ID := ({ Session := (0:Int), Seq := (0:Int) } : api_ID), R := zero_api_Reply, C := zero_api_Command } : api_Mail))))) else (bif ((IntKind.u8.wrap t539.1) == (3:Int)) then ((locks_Read t539.2).bind fun t619 => ((command_ReadReply t619.2).bind fun t634 => (some (Sum.inl (t634.2, ({ Kind := (IntKind.u8.wrap t539.1), M := zero_api_Message, H := t619.1, ID := ({ Session := (0:Int), Seq := (0:Int) } : api_ID), R := t634.1, C := zero_api_Command } : api_Mail)))))) else (bif ((IntKind.u8.wrap t539.1) == (4:Int)) then ((octet_Reader_Bytes t539.2 (1048576:Int)).bind fun t646 => ((command_Decode t646.1).bind fun t656 => (bif (t656.2 != (0:Int)) then (inrO (some (zero_api_Mail, (5:Int)))) else (bif (t656.1.Kind != (3:Int)) then (inrO (some (zero_api_Mail, (5:Int)))) else (some (Sum.inl (t646.2, ({ Kind := (IntKind.u8.wrap t539.1), M := zero_api_Message, H := zero_api_Hold, ID := ({ Session := (0:Int), Seq := (0:Int) } : api_ID), R := zero_api_Reply, C := t656.1 } : api_Mail)))))))) else (bif ((IntKind.u8.wrap t539.1) == (5:Int)) then ((octet_Reader_Num t539.2 (8:Int)).bind fun t733 => ((octet_Reader_Num t733.2 (8:Int)).bind fun t738 => (some (Sum.inl (t738.2, ({ Kind := (IntKind.u8.wrap t539.1), M := zero_api_Message, H := zero_api_Hold, ID := ({ Session := t733.1, Seq := t738.1 } : api_ID), R := zero_api_Reply, C := zero_api_Command } : api_Mail)))))) else (inrO (some (zero_api_Mail, (5:Int))))))))
noncomputable def mail_Decode_j0 (a0 : (List Int)) (s : (octet_Reader × api_Mail)) : Option (api_Mail × Int) :=
  match s with | (z763, z764) => ((octet_Reader_End z763).bind fun t804 => (bif (!t804) then (some (zero_api_Mail, (5:Int))) else ((mail_Encode z764).bind fun t860 => ((slices_Equal_byte_byte t860 a0).bind fun t869 => (bif (!t869) then (some (zero_api_Mail, (5:Int))) else (some (z764, (0:Int))))))))
noncomputable def mail_Decode (a0 : (List Int)) : Option (api_Mail × Int) :=
  ((octet_Read a0).bind fun t532 => ((octet_Reader_Num t532 (1:Int)).bind fun t539 => (joinO (bif ((IntKind.u8.wrap t539.1) == (1:Int)) then ((mail_readMessage t539.2).bind fun t584 => (some (Sum.inl (t584.2, ({ Kind := (IntKind.u8.wrap t539.1), M := t584.1, H := zero_api_Hold, ID := ({ Session := (0:Int), Seq := (0:Int) } : api_ID), R := zero_api_Reply, C := zero_api_Command } : api_Mail))))) else (((bif ((IntKind.u8.wrap t539.1) == (2:Int)) then (some ((IntKind.u8.wrap t539.1) == (2:Int))) else (some ((IntKind.u8.wrap t539.1) == (6:Int))))).bind (mail_Decode_j1 t539))) (mail_Decode_j0 a0))))

noncomputable def ref02_Num_l0 (a2 : Int) (s : (Int × (List Int) × Int)) : Option ((Int × (List Int) × Int) ⊕ ((List Int))) :=
  match s with | (z297, z298, z301) => (bif (decide (z301 < a2)) then (gd (room z298 ([(IntKind.u8.wrap (bAnd .u64 z297 (255:Int)))])) (some (Sum.inl ((iShr .u64 z297 (8:Int)), (z298 ++ ([(IntKind.u8.wrap (bAnd .u64 z297 (255:Int)))])), (IntKind.i64.wrap (z301 + (1:Int))))))) else (inrO (some z298)))
noncomputable def ref02_Num (a0 : (List Int)) (a1 : Int) (a2 : Int) : Option ((List Int)) :=
  (gd (room ([] : List Int) a0) (loopO (ref02_Num_l0 a2) (a1, a0, (0:Int))))

noncomputable def ref02_Flag (a0 : (List Int)) (a1 : Bool) : Option ((List Int)) :=
  (bif a1 then ((ref02_Num a0 (1:Int) (1:Int)).bind fun t310 => (some t310)) else ((ref02_Num a0 (0:Int) (1:Int)).bind fun t317 => (some t317)))

noncomputable def ref02_Bytes (a0 : (List Int)) (a1 : (List Int)) : Option ((List Int)) :=
  ((ref02_Num a0 (IntKind.u64.wrap ((a1).length : Int)) (4:Int)).bind fun t363 => (gd (room t363 a1) (some (t363 ++ a1))))

noncomputable def ref13_Message_l1 (a1 : api_Message) (s : ((List Int) × Int)) : Option (((List Int) × Int) ⊕ ((List Int))) :=
  match s with | (z740, z743) => (bif (decide (z743 < ((a1.Entries).length : Int))) then ((geto a1.Entries z743).bind fun x753 => ((ref02_Num z740 x753.Index (8:Int)).bind fun t774 => ((ref02_Num t774 x753.Term (8:Int)).bind fun t783 => ((ref02_Num t783 (IntKind.u64.wrap x753.Kind) (1:Int)).bind fun t792 => ((ref02_Bytes t792 x753.Data).bind fun t801 => (some (Sum.inl (t801, (IntKind.i64.wrap (z743 + (1:Int))))))))))) else (inrO (some z740)))
noncomputable def ref13_Message_j0 (a1 : api_Message) (z810 : ((List Int))) : Option ((List Int)) :=
  ((ref02_Num z810 a1.S.Index (8:Int)).bind fun t818 => ((ref02_Num t818 a1.S.Term (8:Int)).bind fun t827 => ((ref02_Num t827 a1.S.Voters (8:Int)).bind fun t836 => ((ref02_Bytes t836 a1.S.Data).bind fun t845 => (some t845)))))
noncomputable def ref13_Message (a0 : (List Int)) (a1 : api_Message) : Option ((List Int)) :=
  ((ref02_Num a0 (IntKind.u64.wrap a1.Kind) (1:Int)).bind fun t545 => ((ref02_Num t545 (IntKind.u64.wrap a1.From) (1:Int)).bind fun t554 => ((ref02_Num t554 (IntKind.u64.wrap a1.To) (1:Int)).bind fun t563 => ((ref02_Num t563 a1.Term (8:Int)).bind fun t572 => ((ref02_Num t572 a1.Index (8:Int)).bind fun t581 => ((ref02_Num t581 a1.LogTerm (8:Int)).bind fun t590 => ((ref02_Num t590 a1.Commit (8:Int)).bind fun t599 => ((ref02_Flag t599 a1.OK).bind fun t608 => ((ref02_Num t608 (IntKind.u64.wrap ((a1.Entries).length : Int)) (4:Int)).bind fun t617 => (((loopO (ref13_Message_l1 a1) (t617, (0:Int)))).bind (ref13_Message_j0 a1)))))))))))

noncomputable def ref12_ID (a0 : (List Int)) (a1 : api_ID) : Option ((List Int)) :=
  ((ref02_Num a0 a1.Session (8:Int)).bind fun t278 => ((ref02_Num t278 a1.Seq (8:Int)).bind fun t287 => (some t287)))

noncomputable def ref01_Rank (a0 : Nat) : Option (Int) :=
  (bif (fNe a0 a0) then (some (18446744073709551615:Int)) else (bif (decide ((Int.ofNat a0) ≥ (9223372036854775808:Int))) then (some (IntKind.u64.wrap ((18446744073709551615:Int) - (Int.ofNat a0)))) else (some (IntKind.u64.wrap ((Int.ofNat a0) + (9223372036854775808:Int))))))

noncomputable def ref12_Hold_l1 (a1 : api_Hold) (s : ((List Int) × Int)) : Option (((List Int) × Int) ⊕ ((List Int))) :=
  match s with | (z674, z677) => (bif (decide (z677 < ((a1.Gets).length : Int))) then ((geto a1.Gets z677).bind fun x687 => ((ref01_Rank x687).bind fun t692 => ((ref02_Num z674 t692 (8:Int)).bind fun t699 => (some (Sum.inl (t699, (IntKind.i64.wrap (z677 + (1:Int))))))))) else (inrO (some z674)))
noncomputable def ref12_Hold_l3 (a1 : api_Hold) (s : ((List Int) × Int)) : Option (((List Int) × Int) ⊕ ((List Int))) :=
  match s with | (z795, z798) => (bif (decide (z798 < ((a1.Scans).length : Int))) then ((geto a1.Scans z798).bind fun x808 => ((ref01_Rank x808.1).bind fun t813 => ((ref02_Num z795 t813 (8:Int)).bind fun t820 => ((ref01_Rank x808.2).bind fun t827 => ((ref02_Num t820 t827 (8:Int)).bind fun t834 => (some (Sum.inl (t834, (IntKind.i64.wrap (z798 + (1:Int))))))))))) else (inrO (some z795)))
noncomputable def ref12_Hold_l5 (a1 : api_Hold) (s : ((List Int) × Int)) : Option (((List Int) × Int) ⊕ ((List Int))) :=
  match s with | (z902, z905) => (bif (decide (z905 < ((a1.Puts).length : Int))) then ((geto a1.Puts z905).bind fun x915 => ((ref01_Rank x915).bind fun t920 => ((ref02_Num z902 t920 (8:Int)).bind fun t927 => (some (Sum.inl (t927, (IntKind.i64.wrap (z905 + (1:Int))))))))) else (inrO (some z902)))
noncomputable def ref12_Hold_j4 (a1 : api_Hold) (z936 : ((List Int))) : Option ((List Int)) :=
  ((ref02_Bytes z936 a1.Data).bind fun t944 => (some t944))
noncomputable def ref12_Hold_j2 (a1 : api_Hold) (z843 : ((List Int))) : Option ((List Int)) :=
  ((ref02_Num z843 (IntKind.u64.wrap ((a1.Puts).length : Int)) (4:Int)).bind fun t851 => (((loopO (ref12_Hold_l5 a1) (t851, (0:Int)))).bind (ref12_Hold_j4 a1)))
noncomputable def ref12_Hold_j0 (a1 : api_Hold) (z708 : ((List Int))) : Option ((List Int)) :=
  ((ref02_Num z708 (IntKind.u64.wrap ((a1.Scans).length : Int)) (4:Int)).bind fun t716 => (((loopO (ref12_Hold_l3 a1) (t716, (0:Int)))).bind (ref12_Hold_j2 a1)))
noncomputable def ref12_Hold (a0 : (List Int)) (a1 : api_Hold) : Option ((List Int)) :=
  ((ref12_ID a0 a1.ID).bind fun t605 => ((ref02_Num t605 a1.Epoch (8:Int)).bind fun t614 => ((ref02_Num t614 (IntKind.u64.wrap ((a1.Gets).length : Int)) (4:Int)).bind fun t623 => (((loopO (ref12_Hold_l1 a1) (t623, (0:Int)))).bind (ref12_Hold_j0 a1)))))

noncomputable def ref13_Reply_l1 (a1 : api_Reply) (s : ((List Int) × Int)) : Option (((List Int) × Int) ⊕ ((List Int))) :=
  match s with | (z1016, z1019) => (bif (decide (z1019 < ((a1.Gots).length : Int))) then ((geto a1.Gots z1019).bind fun x1029 => ((ref02_Flag z1016 x1029.Has).bind fun t1042 => ((ref02_Bytes t1042 x1029.Val).bind fun t1051 => (some (Sum.inl (t1051, (IntKind.i64.wrap (z1019 + (1:Int))))))))) else (inrO (some z1016)))
noncomputable def ref13_Reply_l3 (x1412 : (List api_Pair)) (z1402 : Int) (s : ((List Int) × Int)) : Option (((List Int) × Int) ⊕ (((List Int) × Int) ⊕ ((List Int)))) :=
  match s with | (z1518, z1521) => (bif (decide (z1521 < ((x1412).length : Int))) then ((geto x1412 z1521).bind fun x1537 => ((ref01_Rank x1537.At).bind fun t1548 => ((ref02_Num z1518 t1548 (8:Int)).bind fun t1555 => ((ref02_Bytes t1555 x1537.Val).bind fun t1564 => (some (Sum.inl (t1564, (IntKind.i64.wrap (z1521 + (1:Int)))))))))) else (inrO (some (Sum.inl (z1518, (IntKind.i64.wrap (z1402 + (1:Int))))))))
noncomputable def ref13_Reply_l2 (a1 : api_Reply) (s : ((List Int) × Int)) : Option (((List Int) × Int) ⊕ ((List Int))) :=
  match s with | (z1399, z1402) => (bif (decide (z1402 < ((a1.Scans).length : Int))) then ((geto a1.Scans z1402).bind fun x1412 => ((ref02_Num z1399 (IntKind.u64.wrap ((x1412).length : Int)) (4:Int)).bind fun t1425 => (loopO (ref13_Reply_l3 x1412 z1402) (t1425, (0:Int))))) else (inrO (some z1399)))
noncomputable def ref13_Reply_j0 (a1 : api_Reply) (z1060 : ((List Int))) : Option ((List Int)) :=
  ((ref02_Num z1060 (IntKind.u64.wrap ((a1.Scans).length : Int)) (4:Int)).bind fun t1068 => (loopO (ref13_Reply_l2 a1) (t1068, (0:Int))))
noncomputable def ref13_Reply (a0 : (List Int)) (a1 : api_Reply) : Option ((List Int)) :=
  ((ref02_Num a0 (IntKind.u64.wrap a1.E) (1:Int)).bind fun t918 => ((ref02_Num t918 a1.Epoch (8:Int)).bind fun t927 => ((ref02_Num t927 a1.Index (8:Int)).bind fun t936 => ((ref02_Num t936 (IntKind.u64.wrap ((a1.Gots).length : Int)) (4:Int)).bind fun t945 => (((loopO (ref13_Reply_l1 a1) (t945, (0:Int)))).bind (ref13_Reply_j0 a1))))))

noncomputable def ref13_Writes_l0 (a1 : (List api_Write)) (s : ((List Int) × Int)) : Option (((List Int) × Int) ⊕ ((List Int))) :=
  match s with | (z588, z591) => (bif (decide (z591 < ((a1).length : Int))) then ((geto a1 z591).bind fun x601 => ((ref01_Rank x601.At).bind fun t612 => ((ref02_Num z588 t612 (8:Int)).bind fun t619 => ((ref02_Flag t619 x601.Del).bind fun t628 => ((ref02_Bytes t628 x601.Val).bind fun t637 => (some (Sum.inl (t637, (IntKind.i64.wrap (z591 + (1:Int))))))))))) else (inrO (some z588)))
noncomputable def ref13_Writes (a0 : (List Int)) (a1 : (List api_Write)) : Option ((List Int)) :=
  ((ref02_Num a0 (IntKind.u64.wrap ((a1).length : Int)) (4:Int)).bind fun t489 => (loopO (ref13_Writes_l0 a1) (t489, (0:Int))))

noncomputable def ref13_Rule (a0 : (List Int)) (a1 : api_Rule) : Option ((List Int)) :=
  ((ref02_Num a0 a1.ID (8:Int)).bind fun t611 => ((ref02_Num t611 (IntKind.u64.wrap a1.From) (1:Int)).bind fun t620 => ((ref02_Num t620 (IntKind.u64.wrap a1.To) (1:Int)).bind fun t629 => ((ref01_Rank a1.Lo).bind fun t636 => ((ref02_Num t629 t636 (8:Int)).bind fun t643 => ((ref01_Rank a1.Hi).bind fun t650 => ((ref02_Num t643 t650 (8:Int)).bind fun t657 => ((ref02_Num t657 a1.Authority (8:Int)).bind fun t666 => ((ref02_Num t666 (IntKind.u64.wrap a1.Quota) (4:Int)).bind fun t675 => (some t675))))))))))

noncomputable def ref13_Command_l1 (a0 : api_Command) (s : ((List Int) × Int)) : Option (((List Int) × Int) ⊕ ((List Int))) :=
  match s with | (z780, z783) => (bif (decide (z783 < ((a0.Parts).length : Int))) then ((geto a0.Parts z783).bind fun x793 => ((ref02_Num z780 (IntKind.u64.wrap x793.Shard) (1:Int)).bind fun t806 => ((ref13_Writes t806 x793.Writes).bind fun t815 => (some (Sum.inl (t815, (IntKind.i64.wrap (z783 + (1:Int))))))))) else (inrO (some z780)))
noncomputable def ref13_Command_j0 (a0 : api_Command) (z824 : ((List Int))) : Option ((List Int)) :=
  ((ref13_Reply z824 a0.R).bind fun t832 => (some t832))
noncomputable def ref13_Command (a0 : api_Command) : Option ((List Int)) :=
  ((ref02_Num ([]) (IntKind.u64.wrap a0.Kind) (1:Int)).bind fun t606 => (bif (a0.Kind == (1:Int)) then ((ref02_Num t606 a0.Epoch (8:Int)).bind fun t616 => (some t616)) else (bif (a0.Kind == (2:Int)) then ((ref12_Hold t606 a0.Hold).bind fun t626 => (some t626)) else (bif (a0.Kind == (3:Int)) then ((ref12_ID t606 a0.ID).bind fun t636 => ((ref02_Num t636 (IntKind.u64.wrap a0.E) (1:Int)).bind fun t645 => ((ref02_Num t645 a0.Epoch (8:Int)).bind fun t654 => ((ref02_Num t654 a0.Index (8:Int)).bind fun t663 => ((ref13_Writes t663 a0.Writes).bind fun t672 => (some t672)))))) else (bif (a0.Kind == (4:Int)) then ((ref12_ID t606 a0.ID).bind fun t682 => ((ref02_Num t682 a0.Epoch (8:Int)).bind fun t691 => ((ref02_Num t691 a0.Shards (2:Int)).bind fun t700 => ((ref02_Num t700 (IntKind.u64.wrap ((a0.Parts).length : Int)) (4:Int)).bind fun t709 => (((loopO (ref13_Command_l1 a0) (t709, (0:Int)))).bind (ref13_Command_j0 a0)))))) else (bif (a0.Kind == (5:Int)) then ((ref12_ID t606 a0.ID).bind fun t842 => (some t842)) else (bif (a0.Kind == (6:Int)) then ((ref13_Rule t606 a0.Rule).bind fun t852 => ((ref02_Flag t852 a0.On).bind fun t861 => (some t861))) else (bif (a0.Kind == (7:Int)) then ((ref12_ID t606 a0.ID).bind fun t871 => ((ref02_Num t871 a0.Epoch (8:Int)).bind fun t880 => ((ref13_Rule t880 a0.Rule).bind fun t889 => ((ref13_Writes t889 a0.Writes).bind fun t898 => ((ref13_Reply t898 a0.R).bind fun t907 => (some t907)))))) else (some t606)))))))))

noncomputable def ref13_Mail_j0 (t318 : ((List Int))) (a0 : api_Mail) (z336 : (Bool)) : Option ((List Int)) :=
  (bif z336 then ((ref12_Hold t318 a0.H).bind fun t345 => (some t345)) else (bif (a0.Kind == (3:Int)) then ((ref12_Hold t318 a0.H).bind fun t355 => ((ref13_Reply t355 a0.R).bind fun t364 => (some t364))) else (bif (a0.Kind == (4:Int)) then ((ref13_Command a0.C).bind fun t372 => ((ref02_Bytes t318 t372).bind fun t383 => (some t383))) else (bif (a0.Kind == (5:Int)) then ((ref12_ID t318 a0.ID).bind fun t393 => (some t393)) else (some t318)))))
noncomputable def ref13_Mail (a0 : api_Mail) : Option ((List Int)) :=
  ((ref02_Num ([]) (IntKind.u64.wrap a0.Kind) (1:Int)).bind fun t318 => (bif (a0.Kind == (1:Int)) then ((ref13_Message t318 a0.M).bind fun t328 => (some t328)) else (((bif (a0.Kind == (2:Int)) then (some (a0.Kind == (2:Int))) else (some (a0.Kind == (6:Int))))).bind (ref13_Mail_j0 t318 a0))))

noncomputable def ref08_SameEntries_l0 (a0 : (List api_Entry)) (a1 : (List api_Entry)) (z408 : (Int)) : Option ((Int) ⊕ (Bool)) :=
  (bif (decide (z408 < ((a0).length : Int))) then ((geto a0 z408).bind fun x418 => ((geto a1 z408).bind fun x429 => (bif (x418.Index != x429.Index) then (inrO (some false)) else (bif (x418.Term != x429.Term) then (inrO (some false)) else (bif (x418.Kind != x429.Kind) then (inrO (some false)) else (bif (!(sEq (toStr x418.Data) (toStr x429.Data))) then (inrO (some false)) else (some (Sum.inl (IntKind.i64.wrap (z408 + (1:Int))))))))))) else (inrO (some true)))
noncomputable def ref08_SameEntries (a0 : (List api_Entry)) (a1 : (List api_Entry)) : Option (Bool) :=
  (bif (((a0).length : Int) != ((a1).length : Int)) then (some false) else (loopO (ref08_SameEntries_l0 a0 a1) (0:Int)))

noncomputable def math_Signbit (a0 : Nat) : Option (Bool) :=
  (some (decide ((IntKind.i64.wrap (Int.ofNat a0)) < (0:Int))))

noncomputable def ref01_Ahead_j0 (a0 : Nat) (a1 : Nat) (_s : Unit) : Option (Bool) :=
  (some (fLt a0 a1))
noncomputable def ref01_Ahead (a0 : Nat) (a1 : Nat) : Option (Bool) :=
  (bif (fNe a0 a0) then (some false) else (bif (fNe a1 a1) then (some true) else (joinO (bif (fEq a0 (0:Nat)) then (bif (fEq a1 (0:Nat)) then ((math_Signbit a0).bind fun t315 => (bif t315 then ((math_Signbit a1).bind fun t321 => (inrO (some (!t321)))) else (inrO (some false)))) else (some (Sum.inl ()))) else (some (Sum.inl ()))) (ref01_Ahead_j0 a0 a1))))

noncomputable def ref01_Same (a0 : Nat) (a1 : Nat) : Option (Bool) :=
  ((ref01_Ahead a0 a1).bind fun t302 => (bif (!t302) then ((ref01_Ahead a1 a0).bind fun t308 => (some (!t308))) else (some false)))

noncomputable def ref11_SameHold_l1 (a0 : api_Hold) (a1 : api_Hold) (z560 : (Int)) : Option ((Int) ⊕ (Unit ⊕ (Bool))) :=
  (bif (decide (z560 < ((a0.Gets).length : Int))) then ((geto a0.Gets z560).bind fun x570 => ((geto a1.Gets z560).bind fun x575 => ((ref01_Same x570 x575).bind fun t580 => (bif (!t580) then (inrO (inrO (some false))) else (some (Sum.inl (IntKind.i64.wrap (z560 + (1:Int))))))))) else (inrO (some (Sum.inl ()))))
noncomputable def ref11_SameHold_l3 (a0 : api_Hold) (a1 : api_Hold) (z638 : (Int)) : Option ((Int) ⊕ (Unit ⊕ (Bool))) :=
  (bif (decide (z638 < ((a0.Scans).length : Int))) then ((geto a0.Scans z638).bind fun x648 => ((geto a1.Scans z638).bind fun x653 => ((ref01_Same x648.1 x653.1).bind fun t658 => (bif (!t658) then (inrO (inrO (some false))) else ((ref01_Same x648.2 x653.2).bind fun t664 => (bif (!t664) then (inrO (inrO (some false))) else (some (Sum.inl (IntKind.i64.wrap (z638 + (1:Int))))))))))) else (inrO (some (Sum.inl ()))))
noncomputable def ref11_SameHold_l4 (a0 : api_Hold) (a1 : api_Hold) (z710 : (Int)) : Option ((Int) ⊕ (Bool)) :=
  (bif (decide (z710 < ((a0.Puts).length : Int))) then ((geto a0.Puts z710).bind fun x720 => ((geto a1.Puts z710).bind fun x725 => ((ref01_Same x720 x725).bind fun t730 => (bif (!t730) then (inrO (some false)) else (some (Sum.inl (IntKind.i64.wrap (z710 + (1:Int))))))))) else (inrO (some true)))
noncomputable def ref11_SameHold_j2 (a0 : api_Hold) (a1 : api_Hold) (_s : Unit) : Option (Bool) :=
  (loopO (ref11_SameHold_l4 a0 a1) (0:Int))
noncomputable def ref11_SameHold_j0 (a0 : api_Hold) (a1 : api_Hold) (_s : Unit) : Option (Bool) :=
  (joinO (loopO (ref11_SameHold_l3 a0 a1) (0:Int)) (ref11_SameHold_j2 a0 a1))
noncomputable def ref11_SameHold (a0 : api_Hold) (a1 : api_Hold) : Option (Bool) :=
  (bif (!((a0.ID.Session == a1.ID.Session) && (a0.ID.Seq == a1.ID.Seq))) then (some false) else (bif (a0.Epoch != a1.Epoch) then (some false) else (bif (((a0.Gets).length : Int) != ((a1.Gets).length : Int)) then (some false) else (bif (((a0.Scans).length : Int) != ((a1.Scans).length : Int)) then (some false) else (bif (((a0.Puts).length : Int) != ((a1.Puts).length : Int)) then (some false) else (bif (!(sEq (toStr a0.Data) (toStr a1.Data))) then (some false) else (joinO (loopO (ref11_SameHold_l1 a0 a1) (0:Int)) (ref11_SameHold_j0 a0 a1))))))))

noncomputable def ref11_SameGots_l0 (a0 : (List api_Got)) (a1 : (List api_Got)) (z425 : (Int)) : Option ((Int) ⊕ (Bool)) :=
  (bif (decide (z425 < ((a0).length : Int))) then ((geto a0 z425).bind fun x435 => ((geto a1 z425).bind fun x446 => (bif (!(x435.Has == x446.Has)) then (inrO (some false)) else (bif (!(sEq (toStr x435.Val) (toStr x446.Val))) then (inrO (some false)) else (some (Sum.inl (IntKind.i64.wrap (z425 + (1:Int))))))))) else (inrO (some true)))
noncomputable def ref11_SameGots (a0 : (List api_Got)) (a1 : (List api_Got)) : Option (Bool) :=
  (bif (((a0).length : Int) != ((a1).length : Int)) then (some false) else (loopO (ref11_SameGots_l0 a0 a1) (0:Int)))

noncomputable def ref11_SamePairs_l0 (a0 : (List api_Pair)) (a1 : (List api_Pair)) (z518 : (Int)) : Option ((Int) ⊕ (Bool)) :=
  (bif (decide (z518 < ((a0).length : Int))) then ((geto a0 z518).bind fun x528 => ((geto a1 z518).bind fun x539 => ((ref01_Same x528.At x539.At).bind fun t550 => (bif (!t550) then (inrO (some false)) else (bif (!(sEq (toStr x528.Val) (toStr x539.Val))) then (inrO (some false)) else (some (Sum.inl (IntKind.i64.wrap (z518 + (1:Int)))))))))) else (inrO (some true)))
noncomputable def ref11_SamePairs (a0 : (List api_Pair)) (a1 : (List api_Pair)) : Option (Bool) :=
  (bif (((a0).length : Int) != ((a1).length : Int)) then (some false) else (loopO (ref11_SamePairs_l0 a0 a1) (0:Int)))

noncomputable def ref11_SameReply_l0 (a0 : api_Reply) (a1 : api_Reply) (z470 : (Int)) : Option ((Int) ⊕ (Bool)) :=
  (bif (decide (z470 < ((a0.Scans).length : Int))) then ((geto a0.Scans z470).bind fun x480 => ((geto a1.Scans z470).bind fun x491 => ((ref11_SamePairs x480 x491).bind fun t502 => (bif (!t502) then (inrO (some false)) else (some (Sum.inl (IntKind.i64.wrap (z470 + (1:Int))))))))) else (inrO (some true)))
noncomputable def ref11_SameReply (a0 : api_Reply) (a1 : api_Reply) : Option (Bool) :=
  (bif (a0.E != a1.E) then (some false) else (bif (a0.Epoch != a1.Epoch) then (some false) else (bif (a0.Index != a1.Index) then (some false) else ((ref11_SameGots a0.Gots a1.Gots).bind fun t404 => (bif (!t404) then (some false) else (bif (((a0.Scans).length : Int) != ((a1.Scans).length : Int)) then (some false) else (loopO (ref11_SameReply_l0 a0 a1) (0:Int))))))))

noncomputable def law17_same (a0 : api_Mail) (a1 : api_Mail) : Option (Bool) :=
  (bif (a0.M.Kind != a1.M.Kind) then (some false) else (bif (a0.M.From != a1.M.From) then (some false) else (bif (a0.M.To != a1.M.To) then (some false) else (bif (a0.M.Term != a1.M.Term) then (some false) else (bif (a0.M.Index != a1.M.Index) then (some false) else (bif (a0.M.LogTerm != a1.M.LogTerm) then (some false) else (bif (a0.M.Commit != a1.M.Commit) then (some false) else (bif (!(a0.M.OK == a1.M.OK)) then (some false) else ((ref08_SameEntries a0.M.Entries a1.M.Entries).bind fun t362 => (bif (!t362) then (some false) else (bif (a0.M.S.Index != a1.M.S.Index) then (some false) else (bif (a0.M.S.Term != a1.M.S.Term) then (some false) else (bif (a0.M.S.Voters != a1.M.S.Voters) then (some false) else (bif (!(sEq (toStr a0.M.S.Data) (toStr a1.M.S.Data))) then (some false) else (bif (a0.Kind == a1.Kind) then (bif ((a0.ID.Session == a1.ID.Session) && (a0.ID.Seq == a1.ID.Seq)) then ((ref11_SameHold a0.H a1.H).bind fun t374 => (bif t374 then ((ref11_SameReply a0.R a1.R).bind fun t380 => (bif t380 then ((ref13_Command a0.C).bind fun t386 => ((ref13_Command a1.C).bind fun t393 => (some (sEq (toStr t386) (toStr t393))))) else (some false))) else (some false))) else (some false)) else (some false))))))))))))))))

noncomputable def law17_MailBytes_l0 (s : (ref12_Tape × Int)) : Option ((ref12_Tape × Int) ⊕ (Bool)) :=
  match s with | (z1434, z1435) => (bif (decide (z1435 < (5:Int))) then ((law17_make1 z1434).bind fun t1446 => ((mail_Encode t1446.1).bind fun t1538 => ((mail_Decode t1538).bind fun t1548 => ((ref13_Mail t1446.1).bind fun t1640 => (bif (!(sEq (toStr t1538) (toStr t1640))) then (inrO (some false)) else (bif (t1548.2 != (0:Int)) then (inrO (some false)) else ((law17_same t1446.1 t1548.1).bind fun t1713 => (bif (!t1713) then (inrO (some false)) else (some (Sum.inl (t1446.2, (IntKind.i64.wrap (z1435 + (1:Int)))))))))))))) else (inrO (some true)))
noncomputable def law17_MailBytes (a0 : (List Int)) : Option (Bool) :=
  (law17_awake.bind fun t861 => (bif (!t861) then (law17_awake.bind fun t867 => (some t867)) else (bif (decide (((a0).length : Int) > (300:Int))) then (law17_awake.bind fun t873 => (some t873)) else (loopO (law17_MailBytes_l0) (({ L := a0, I := (0:Int) } : ref12_Tape), (0:Int))))))

noncomputable def law17_MailJunk_j0 (a1 : (List Int)) (a2 : Int) (a3 : Int) (_s : Unit) : Option (Bool) :=
  ((law17_make1 ({ L := a1, I := (0:Int) } : ref12_Tape)).bind fun t477 => ((mail_Encode t477.1).bind fun t546 => (gd (!(((t546).length : Int) == (0:Int))) ((geto t546 (Int.tmod (IntKind.i64.wrap a2) ((t546).length : Int))).bind fun x554 => ((mail_Decode (t546.set (Int.tmod (IntKind.i64.wrap a2) ((t546).length : Int)).toNat (bXor .u8 x554 a3))).bind fun t566 => (bif (t566.2 == (0:Int)) then ((mail_Encode t566.1).bind fun t659 => (bif (sEq (toStr t659) (toStr (t546.set (Int.tmod (IntKind.i64.wrap a2) ((t546).length : Int)).toNat (bXor .u8 x554 a3)))) then (some true) else (some (t566.2 == (5:Int))))) else (some (t566.2 == (5:Int)))))))))
noncomputable def law17_MailJunk (a0 : (List Int)) (a1 : (List Int)) (a2 : Int) (a3 : Int) : Option (Bool) :=
  (law17_awake.bind fun t336 => (bif (!t336) then (law17_awake.bind fun t342 => (some t342)) else (bif (decide (((a0).length : Int) > (1000:Int))) then (law17_awake.bind fun t348 => (some t348)) else (bif (decide (((a1).length : Int) > (200:Int))) then (law17_awake.bind fun t354 => (some t354)) else ((mail_Decode a0).bind fun t359 => (joinO (bif (t359.2 == (0:Int)) then ((mail_Encode t359.1).bind fun t452 => (bif (!(sEq (toStr t452) (toStr a0))) then (inrO (some false)) else (bif (t359.2 != (0:Int)) then (bif (t359.2 != (5:Int)) then (inrO (some false)) else (bif (t359.1.Kind != (0:Int)) then (inrO (some false)) else (some (Sum.inl ())))) else (some (Sum.inl ()))))) else (bif (t359.2 != (0:Int)) then (bif (t359.2 != (5:Int)) then (inrO (some false)) else (bif (t359.1.Kind != (0:Int)) then (inrO (some false)) else (some (Sum.inl ())))) else (some (Sum.inl ())))) (law17_MailJunk_j0 a1 a2 a3)))))))

noncomputable def law17_MailApart (a0 : (List Int)) (a1 : (List Int)) (a2 : Int) : Option (Bool) :=
  (law17_awake.bind fun t433 => (bif (!t433) then (law17_awake.bind fun t439 => (some t439)) else (bif (decide (((a0).length : Int) > (100:Int))) then (law17_awake.bind fun t445 => (some t445)) else (bif (decide (((a1).length : Int) > (100:Int))) then (law17_awake.bind fun t451 => (some t451)) else ((law17_make1 ({ L := a0, I := (0:Int) } : ref12_Tape)).bind fun t462 => ((law17_make1 ({ L := a1, I := (0:Int) } : ref12_Tape)).bind fun t528 => ((ref13_Mail ({ Kind := (4:Int), M := zero_api_Message, H := zero_api_Hold, ID := ({ Session := (0:Int), Seq := (0:Int) } : api_ID), R := zero_api_Reply, C := ({ Kind := (IntKind.u8.wrap ((1:Int) + (Int.tmod a2 (7:Int)))), ID := ({ Session := (0:Int), Seq := (0:Int) } : api_ID), Epoch := (0:Int), Index := (0:Int), E := (0:Int), Hold := zero_api_Hold, Writes := [], R := zero_api_Reply, Shards := (0:Int), Parts := [], Rule := zero_api_Rule, On := false } : api_Command) } : api_Mail)).bind fun t643 => ((mail_Decode t643).bind fun t653 => ((mail_Encode t462.1).bind fun t745 => ((mail_Encode t528.1).bind fun t784 => ((law17_same t462.1 t528.1).bind fun t855 => (bif ((sEq (toStr t745) (toStr t784)) == t855) then (some ((t653.2 == (0:Int)) == ((IntKind.u8.wrap ((1:Int) + (Int.tmod a2 (7:Int)))) == (3:Int)))) else (some false)))))))))))))
end Go.Proofs.Ytldfdainhdiffaa
