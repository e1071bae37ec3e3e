/- The models of the Go functions: plain Lean, no memory. -/
import Derived.Test.YtbdbeenkamcglaaNetMostGv
set_option linter.unusedVariables false
set_option linter.unusedSimpArgs false
set_option maxRecDepth 100000
set_option maxHeartbeats 4000000
namespace Go.Proofs.Ytbdbeenkamcglaa
open Go Go.V
structure api_Config where
  Up : (List Int)
  Nodes : Int
  Cuts : (List Nat)
  Frame : Int
  Depth : Int
  Quota : Int
  Wide : Int
  Beat : Int
  Elect : Int

structure label_Lattice where
  up : (List Int)
  down : (List Int)
  join : (List (List Int))
  meet : (List (List Int))
  rank : (List Int)
  all : (List Int)

structure config_Plan where
  C : api_Config
  L : (Option label_Lattice)

structure net_Link where
  From : Int
  To : Int
  Lane : Int

structure net_Net where
  p : (Option config_Plan)
  m : (Option (net_Link × (List (List Int))))


noncomputable def ref03_Lattices_l2 (z338 : Int) (s : (Int × Int)) : Option ((Int × Int) ⊕ (Int)) :=
  match s with | (z355, z356) => (bif (decide (z356 < (8:Int))) then (bif ((bAnd .i64 z338 z356) == z338) then (gd (decide ((0:Int) ≤ z356)) (some (Sum.inl ((bOr .u64 z355 (iShl .u64 (1:Int) z356)), (IntKind.i64.wrap (z356 + (1:Int))))))) else (some (Sum.inl (z355, (IntKind.i64.wrap (z356 + (1:Int))))))) else (inrO (some z355)))
noncomputable def ref03_Lattices_j1 (z335 : (List Int)) (z338 : Int) (z368 : (Int)) : Option (((List Int) × Int) ⊕ ((List Int))) :=
  (gd (room z335 ([z368])) (some (Sum.inl ((z335 ++ ([z368])), (IntKind.i64.wrap (z338 + (1:Int)))))))
noncomputable def ref03_Lattices_l0 (s : ((List Int) × Int)) : Option (((List Int) × Int) ⊕ ((List Int))) :=
  match s with | (z335, z338) => (bif (decide (z338 < (8:Int))) then (((loopO (ref03_Lattices_l2 z338) ((0:Int), (0:Int)))).bind (ref03_Lattices_j1 z335 z338)) else (inrO (some z335)))
noncomputable def ref03_Lattices (a0 : Int) : Option ((List Int)) :=
  (bif ((Int.tmod a0 (5:Int)) == (0:Int)) then (some ([(3:Int), (2:Int)])) else (bif ((Int.tmod a0 (5:Int)) == (1:Int)) then (some ([(1:Int)])) else (bif ((Int.tmod a0 (5:Int)) == (2:Int)) then (some ([(1:Int), (3:Int), (7:Int)])) else (bif ((Int.tmod a0 (5:Int)) == (3:Int)) then (some ([(15:Int), (10:Int), (12:Int), (8:Int)])) else (loopO (ref03_Lattices_l0) ([], (0:Int)))))))

noncomputable def ref04_Small_j0 (a0 : Int) (z93 : ((List Int))) : Option (api_Config) :=
  (bif ((Int.tmod (IntKind.u8.wrap (Int.tdiv a0 (16:Int))) (2:Int)) == (1:Int)) then (some ({ Up := z93, Nodes := (IntKind.i64.wrap ((1:Int) + (Int.tmod (IntKind.i64.wrap (IntKind.u8.wrap (Int.tdiv a0 (5:Int)))) (3:Int)))), Cuts := [(0:Nat)], Frame := (128:Int), Depth := (512:Int), Quota := (1048576:Int), Wide := (8:Int), Beat := (2:Int), Elect := (4:Int) } : api_Config)) else (some ({ Up := z93, Nodes := (IntKind.i64.wrap ((1:Int) + (Int.tmod (IntKind.i64.wrap (IntKind.u8.wrap (Int.tdiv a0 (5:Int)))) (3:Int)))), Cuts := [], Frame := (128:Int), Depth := (512:Int), Quota := (1048576:Int), Wide := (8:Int), Beat := (2:Int), Elect := (4:Int) } : api_Config)))
noncomputable def ref04_Small (a0 : Int) : Option (api_Config) :=
  ((ref03_Lattices a0).bind fun t63 => (((bif ((Int.tmod a0 (5:Int)) == (4:Int)) then ((ref03_Lattices (0:Int)).bind fun t82 => (some t82)) else (some t63))).bind (ref04_Small_j0 a0)))

noncomputable def math_IsNaN (a0 : Nat) : Option (Bool) :=
  (some (fNe a0 a0))

noncomputable def number_Rank (a0 : Nat) : Option (Int) :=
  ((math_IsNaN a0).bind fun t40 => (bif t40 then (some (18446744073709551615:Int)) else (bif ((iShr .u64 (Int.ofNat a0) (63:Int)) == (1:Int)) then (some (bXor .u64 ((18446744073709551615):Int) (Int.ofNat a0))) else (some (bOr .u64 (Int.ofNat a0) (9223372036854775808:Int))))))

noncomputable def number_Less (a0 : Nat) (a1 : Nat) : Option (Bool) :=
  ((number_Rank a0).bind fun t43 => ((number_Rank a1).bind fun t48 => (some (decide (t43 < t48)))))

noncomputable def number_Rising_l0 (a0 : (List Nat)) (z129 : (Int)) : Option ((Int) ⊕ (Bool)) :=
  (bif (decide (z129 < ((a0).length : Int))) then ((geto a0 (IntKind.i64.wrap (z129 - (1:Int)))).bind fun x139 => ((geto a0 z129).bind fun x144 => ((number_Less x139 x144).bind fun t149 => (bif (!t149) then (inrO (some false)) else (some (Sum.inl (IntKind.i64.wrap (z129 + (1:Int))))))))) else (inrO (some true)))
noncomputable def number_Rising (a0 : (List Nat)) : Option (Bool) :=
  (loopO (number_Rising_l0 a0) (1:Int))

noncomputable def slices_Clone_uint64_uint64 (a0 : (List Int)) : Option ((List Int)) :=
  gd (room ([] : (List Int)) a0) (some a0)

noncomputable def label_Lattice_orders_l1 (o0 : label_Lattice) (x1057 : Int) (z1047 : Int) (z1090 : (Int)) : Option ((Int) ⊕ ((Int) ⊕ (Bool))) :=
  (bif (decide (z1090 < ((o0.up).length : Int))) then (gd (decide ((0:Int) ≤ z1090)) (bif ((bAnd .u64 (iShr .u64 x1057 z1090) (1:Int)) == (1:Int)) then ((geto o0.up z1090).bind fun x1102 => (bif ((bAndNot .u64 x1102 x1057) != (0:Int)) then (inrO (inrO (some false))) else (bif (z1047 != z1090) then (gd (decide ((0:Int) ≤ z1047)) (bif ((bAnd .u64 (iShr .u64 x1102 z1047) (1:Int)) == (1:Int)) then (inrO (inrO (some false))) else (some (Sum.inl (IntKind.i64.wrap (z1090 + (1:Int))))))) else (some (Sum.inl (IntKind.i64.wrap (z1090 + (1:Int)))))))) else (some (Sum.inl (IntKind.i64.wrap (z1090 + (1:Int))))))) else (inrO (some (Sum.inl (IntKind.i64.wrap (z1047 + (1:Int)))))))
noncomputable def label_Lattice_orders_l0 (o0 : label_Lattice) (z1047 : (Int)) : Option ((Int) ⊕ (Bool)) :=
  (bif (decide (z1047 < ((o0.up).length : Int))) then ((geto o0.up z1047).bind fun x1057 => (gd (decide ((0:Int) ≤ ((o0.up).length : Int))) (bif ((iShr .u64 x1057 ((o0.up).length : Int)) != (0:Int)) then (inrO (some false)) else (gd (decide ((0:Int) ≤ z1047)) (bif ((bAnd .u64 (iShr .u64 x1057 z1047) (1:Int)) == (0:Int)) then (inrO (some false)) else (loopO (label_Lattice_orders_l1 o0 x1057 z1047) (0:Int))))))) else (inrO (some true)))
noncomputable def label_Lattice_orders (a0 : (Option label_Lattice)) : Option (Bool) :=
  (match a0 with | none => none | some o0 => (loopO (label_Lattice_orders_l0 o0) (0:Int)))

noncomputable def label_least_l0 (a1 : (List Int)) (a0 : Int) (z1119 : (Int)) : Option ((Int) ⊕ (Int × Bool)) :=
  (bif (decide (z1119 < ((a1).length : Int))) then (gd (decide ((0:Int) ≤ z1119)) (bif ((bAnd .u64 (iShr .u64 a0 z1119) (1:Int)) == (1:Int)) then ((geto a1 z1119).bind fun x1131 => (bif ((bAndNot .u64 a0 x1131) == (0:Int)) then (inrO (some (z1119, true))) else (some (Sum.inl (IntKind.i64.wrap (z1119 + (1:Int))))))) else (some (Sum.inl (IntKind.i64.wrap (z1119 + (1:Int))))))) else (inrO (some ((0:Int), false))))
noncomputable def label_least (a0 : Int) (a1 : (List Int)) : Option (Int × Bool) :=
  (loopO (label_least_l0 a1 a0) (0:Int))

noncomputable def math_bits_OnesCount64 (a0 : Int) : Option (Int) :=
  (some (bAnd .i64 (IntKind.i64.wrap (IntKind.u64.wrap ((IntKind.u64.wrap ((IntKind.u64.wrap ((bAnd .u64 (IntKind.u64.wrap ((iShr .u64 (IntKind.u64.wrap ((bAnd .u64 (iShr .u64 (IntKind.u64.wrap ((bAnd .u64 (iShr .u64 a0 (1:Int)) (6148914691236517205:Int)) + (bAnd .u64 a0 (6148914691236517205:Int)))) (2:Int)) (3689348814741910323:Int)) + (bAnd .u64 (IntKind.u64.wrap ((bAnd .u64 (iShr .u64 a0 (1:Int)) (6148914691236517205:Int)) + (bAnd .u64 a0 (6148914691236517205:Int)))) (3689348814741910323:Int)))) (4:Int)) + (IntKind.u64.wrap ((bAnd .u64 (iShr .u64 (IntKind.u64.wrap ((bAnd .u64 (iShr .u64 a0 (1:Int)) (6148914691236517205:Int)) + (bAnd .u64 a0 (6148914691236517205:Int)))) (2:Int)) (3689348814741910323:Int)) + (bAnd .u64 (IntKind.u64.wrap ((bAnd .u64 (iShr .u64 a0 (1:Int)) (6148914691236517205:Int)) + (bAnd .u64 a0 (6148914691236517205:Int)))) (3689348814741910323:Int)))))) (1085102592571150095:Int)) + (iShr .u64 (bAnd .u64 (IntKind.u64.wrap ((iShr .u64 (IntKind.u64.wrap ((bAnd .u64 (iShr .u64 (IntKind.u64.wrap ((bAnd .u64 (iShr .u64 a0 (1:Int)) (6148914691236517205:Int)) + (bAnd .u64 a0 (6148914691236517205:Int)))) (2:Int)) (3689348814741910323:Int)) + (bAnd .u64 (IntKind.u64.wrap ((bAnd .u64 (iShr .u64 a0 (1:Int)) (6148914691236517205:Int)) + (bAnd .u64 a0 (6148914691236517205:Int)))) (3689348814741910323:Int)))) (4:Int)) + (IntKind.u64.wrap ((bAnd .u64 (iShr .u64 (IntKind.u64.wrap ((bAnd .u64 (iShr .u64 a0 (1:Int)) (6148914691236517205:Int)) + (bAnd .u64 a0 (6148914691236517205:Int)))) (2:Int)) (3689348814741910323:Int)) + (bAnd .u64 (IntKind.u64.wrap ((bAnd .u64 (iShr .u64 a0 (1:Int)) (6148914691236517205:Int)) + (bAnd .u64 a0 (6148914691236517205:Int)))) (3689348814741910323:Int)))))) (1085102592571150095:Int)) (8:Int)))) + (iShr .u64 (IntKind.u64.wrap ((bAnd .u64 (IntKind.u64.wrap ((iShr .u64 (IntKind.u64.wrap ((bAnd .u64 (iShr .u64 (IntKind.u64.wrap ((bAnd .u64 (iShr .u64 a0 (1:Int)) (6148914691236517205:Int)) + (bAnd .u64 a0 (6148914691236517205:Int)))) (2:Int)) (3689348814741910323:Int)) + (bAnd .u64 (IntKind.u64.wrap ((bAnd .u64 (iShr .u64 a0 (1:Int)) (6148914691236517205:Int)) + (bAnd .u64 a0 (6148914691236517205:Int)))) (3689348814741910323:Int)))) (4:Int)) + (IntKind.u64.wrap ((bAnd .u64 (iShr .u64 (IntKind.u64.wrap ((bAnd .u64 (iShr .u64 a0 (1:Int)) (6148914691236517205:Int)) + (bAnd .u64 a0 (6148914691236517205:Int)))) (2:Int)) (3689348814741910323:Int)) + (bAnd .u64 (IntKind.u64.wrap ((bAnd .u64 (iShr .u64 a0 (1:Int)) (6148914691236517205:Int)) + (bAnd .u64 a0 (6148914691236517205:Int)))) (3689348814741910323:Int)))))) (1085102592571150095:Int)) + (iShr .u64 (bAnd .u64 (IntKind.u64.wrap ((iShr .u64 (IntKind.u64.wrap ((bAnd .u64 (iShr .u64 (IntKind.u64.wrap ((bAnd .u64 (iShr .u64 a0 (1:Int)) (6148914691236517205:Int)) + (bAnd .u64 a0 (6148914691236517205:Int)))) (2:Int)) (3689348814741910323:Int)) + (bAnd .u64 (IntKind.u64.wrap ((bAnd .u64 (iShr .u64 a0 (1:Int)) (6148914691236517205:Int)) + (bAnd .u64 a0 (6148914691236517205:Int)))) (3689348814741910323:Int)))) (4:Int)) + (IntKind.u64.wrap ((bAnd .u64 (iShr .u64 (IntKind.u64.wrap ((bAnd .u64 (iShr .u64 a0 (1:Int)) (6148914691236517205:Int)) + (bAnd .u64 a0 (6148914691236517205:Int)))) (2:Int)) (3689348814741910323:Int)) + (bAnd .u64 (IntKind.u64.wrap ((bAnd .u64 (iShr .u64 a0 (1:Int)) (6148914691236517205:Int)) + (bAnd .u64 a0 (6148914691236517205:Int)))) (3689348814741910323:Int)))))) (1085102592571150095:Int)) (8:Int)))) (16:Int)))) + (iShr .u64 (IntKind.u64.wrap ((IntKind.u64.wrap ((bAnd .u64 (IntKind.u64.wrap ((iShr .u64 (IntKind.u64.wrap ((bAnd .u64 (iShr .u64 (IntKind.u64.wrap ((bAnd .u64 (iShr .u64 a0 (1:Int)) (6148914691236517205:Int)) + (bAnd .u64 a0 (6148914691236517205:Int)))) (2:Int)) (3689348814741910323:Int)) + (bAnd .u64 (IntKind.u64.wrap ((bAnd .u64 (iShr .u64 a0 (1:Int)) (6148914691236517205:Int)) + (bAnd .u64 a0 (6148914691236517205:Int)))) (3689348814741910323:Int)))) (4:Int)) + (IntKind.u64.wrap ((bAnd .u64 (iShr .u64 (IntKind.u64.wrap ((bAnd .u64 (iShr .u64 a0 (1:Int)) (6148914691236517205:Int)) + (bAnd .u64 a0 (6148914691236517205:Int)))) (2:Int)) (3689348814741910323:Int)) + (bAnd .u64 (IntKind.u64.wrap ((bAnd .u64 (iShr .u64 a0 (1:Int)) (6148914691236517205:Int)) + (bAnd .u64 a0 (6148914691236517205:Int)))) (3689348814741910323:Int)))))) (1085102592571150095:Int)) + (iShr .u64 (bAnd .u64 (IntKind.u64.wrap ((iShr .u64 (IntKind.u64.wrap ((bAnd .u64 (iShr .u64 (IntKind.u64.wrap ((bAnd .u64 (iShr .u64 a0 (1:Int)) (6148914691236517205:Int)) + (bAnd .u64 a0 (6148914691236517205:Int)))) (2:Int)) (3689348814741910323:Int)) + (bAnd .u64 (IntKind.u64.wrap ((bAnd .u64 (iShr .u64 a0 (1:Int)) (6148914691236517205:Int)) + (bAnd .u64 a0 (6148914691236517205:Int)))) (3689348814741910323:Int)))) (4:Int)) + (IntKind.u64.wrap ((bAnd .u64 (iShr .u64 (IntKind.u64.wrap ((bAnd .u64 (iShr .u64 a0 (1:Int)) (6148914691236517205:Int)) + (bAnd .u64 a0 (6148914691236517205:Int)))) (2:Int)) (3689348814741910323:Int)) + (bAnd .u64 (IntKind.u64.wrap ((bAnd .u64 (iShr .u64 a0 (1:Int)) (6148914691236517205:Int)) + (bAnd .u64 a0 (6148914691236517205:Int)))) (3689348814741910323:Int)))))) (1085102592571150095:Int)) (8:Int)))) + (iShr .u64 (IntKind.u64.wrap ((bAnd .u64 (IntKind.u64.wrap ((iShr .u64 (IntKind.u64.wrap ((bAnd .u64 (iShr .u64 (IntKind.u64.wrap ((bAnd .u64 (iShr .u64 a0 (1:Int)) (6148914691236517205:Int)) + (bAnd .u64 a0 (6148914691236517205:Int)))) (2:Int)) (3689348814741910323:Int)) + (bAnd .u64 (IntKind.u64.wrap ((bAnd .u64 (iShr .u64 a0 (1:Int)) (6148914691236517205:Int)) + (bAnd .u64 a0 (6148914691236517205:Int)))) (3689348814741910323:Int)))) (4:Int)) + (IntKind.u64.wrap ((bAnd .u64 (iShr .u64 (IntKind.u64.wrap ((bAnd .u64 (iShr .u64 a0 (1:Int)) (6148914691236517205:Int)) + (bAnd .u64 a0 (6148914691236517205:Int)))) (2:Int)) (3689348814741910323:Int)) + (bAnd .u64 (IntKind.u64.wrap ((bAnd .u64 (iShr .u64 a0 (1:Int)) (6148914691236517205:Int)) + (bAnd .u64 a0 (6148914691236517205:Int)))) (3689348814741910323:Int)))))) (1085102592571150095:Int)) + (iShr .u64 (bAnd .u64 (IntKind.u64.wrap ((iShr .u64 (IntKind.u64.wrap ((bAnd .u64 (iShr .u64 (IntKind.u64.wrap ((bAnd .u64 (iShr .u64 a0 (1:Int)) (6148914691236517205:Int)) + (bAnd .u64 a0 (6148914691236517205:Int)))) (2:Int)) (3689348814741910323:Int)) + (bAnd .u64 (IntKind.u64.wrap ((bAnd .u64 (iShr .u64 a0 (1:Int)) (6148914691236517205:Int)) + (bAnd .u64 a0 (6148914691236517205:Int)))) (3689348814741910323:Int)))) (4:Int)) + (IntKind.u64.wrap ((bAnd .u64 (iShr .u64 (IntKind.u64.wrap ((bAnd .u64 (iShr .u64 a0 (1:Int)) (6148914691236517205:Int)) + (bAnd .u64 a0 (6148914691236517205:Int)))) (2:Int)) (3689348814741910323:Int)) + (bAnd .u64 (IntKind.u64.wrap ((bAnd .u64 (iShr .u64 a0 (1:Int)) (6148914691236517205:Int)) + (bAnd .u64 a0 (6148914691236517205:Int)))) (3689348814741910323:Int)))))) (1085102592571150095:Int)) (8:Int)))) (16:Int)))) (32:Int))))) (127:Int)))

noncomputable def cmp_isNaN_int (a0 : Int) : Option (Bool) :=
  (some (a0 != a0))

noncomputable def cmp_Compare_int (a0 : Int) (a1 : Int) : Option (Int) :=
  ((cmp_isNaN_int a0).bind fun t2447 => ((cmp_isNaN_int a1).bind fun t2452 => (bif t2447 then (bif t2452 then (some (0:Int)) else (some ((-1):Int))) else (bif t2452 then (some (1:Int)) else (bif (decide (a0 < a1)) then (some ((-1):Int)) else (bif (decide (a0 > a1)) then (some (1:Int)) else (some (0:Int))))))))

noncomputable def label_New_l3 (a0 : (List Int)) (x5672 : Int) (z5662 : Int) (s : (label_Lattice × Int)) : Option ((label_Lattice × Int) ⊕ ((label_Lattice × Int) ⊕ (label_Lattice))) :=
  match s with | (z5730, z5731) => (bif (decide (z5731 < ((a0).length : Int))) then (gd (decide ((0:Int) ≤ z5731)) (bif ((bAnd .u64 (iShr .u64 x5672 z5731) (1:Int)) == (1:Int)) then ((geto z5730.down z5731).bind fun x5756 => (gd (decide ((0:Int) ≤ z5662)) (some (Sum.inl (({ up := z5730.up, down := (z5730.down.set z5731.toNat (bOr .u64 x5756 (iShl .u64 (1:Int) z5662))), join := z5730.join, meet := z5730.meet, rank := z5730.rank, all := z5730.all } : label_Lattice), (IntKind.i64.wrap (z5731 + (1:Int)))))))) else (some (Sum.inl (z5730, (IntKind.i64.wrap (z5731 + (1:Int)))))))) else (inrO (some (Sum.inl (z5730, (IntKind.i64.wrap (z5662 + (1:Int))))))))
noncomputable def label_New_l2 (a0 : (List Int)) (s : (label_Lattice × Int)) : Option ((label_Lattice × Int) ⊕ (label_Lattice)) :=
  match s with | (z5661, z5662) => (bif (decide (z5662 < ((a0).length : Int))) then ((geto a0 z5662).bind fun x5672 => (loopO (label_New_l3 a0 x5672 z5662) (z5661, (0:Int)))) else (inrO (some z5661)))
noncomputable def label_New_l7 (a0 : (List Int)) (z6650 : label_Lattice) (z6651 : Int) (s : ((List Int) × (List Int) × Int)) : Option (((List Int) × (List Int) × Int) ⊕ (((List Int) × (List Int)) ⊕ ((label_Lattice × Int) ⊕ ((label_Lattice) ⊕ (Option label_Lattice × Int))))) :=
  match s with | (z6881, z6884, z6887) => (bif (decide (z6887 < ((a0).length : Int))) then ((geto z6650.up z6651).bind fun x6910 => ((geto z6650.up z6887).bind fun x6915 => ((label_least (bAnd .u64 x6910 x6915) z6650.up).bind fun t6922 => ((geto z6650.down z6651).bind fun x6927 => ((geto z6650.down z6887).bind fun x6932 => ((label_least (bAnd .u64 x6927 x6932) z6650.down).bind fun t6939 => (bif (!t6922.2) then (inrO (inrO (inrO (inrO (some (none, (15:Int))))))) else (bif (!t6939.2) then (inrO (inrO (inrO (inrO (some (none, (15:Int))))))) else (gd (room z6881 ([t6922.1])) (gd (room z6884 ([t6939.1])) (some (Sum.inl ((z6881 ++ ([t6922.1])), (z6884 ++ ([t6939.1])), (IntKind.i64.wrap (z6887 + (1:Int)))))))))))))))) else (inrO (some (Sum.inl (z6881, z6884)))))
noncomputable def label_New_j8 (z6650 : label_Lattice) (z6968 : (List Int)) (z6971 : (List Int)) (z6651 : Int) (_s : Unit) : Option ((label_Lattice × Int) ⊕ ((label_Lattice) ⊕ (Option label_Lattice × Int))) :=
  (gd (room (({ up := z6650.up, down := z6650.down, join := (z6650.join ++ ([z6968])), meet := (z6650.meet ++ ([z6971])), rank := z6650.rank, all := z6650.all } : label_Lattice).all) ([z6651])) (some (Sum.inl (({ up := ({ up := z6650.up, down := z6650.down, join := (z6650.join ++ ([z6968])), meet := (z6650.meet ++ ([z6971])), rank := z6650.rank, all := z6650.all } : label_Lattice).up, down := ({ up := z6650.up, down := z6650.down, join := (z6650.join ++ ([z6968])), meet := (z6650.meet ++ ([z6971])), rank := z6650.rank, all := z6650.all } : label_Lattice).down, join := ({ up := z6650.up, down := z6650.down, join := (z6650.join ++ ([z6968])), meet := (z6650.meet ++ ([z6971])), rank := z6650.rank, all := z6650.all } : label_Lattice).join, meet := ({ up := z6650.up, down := z6650.down, join := (z6650.join ++ ([z6968])), meet := (z6650.meet ++ ([z6971])), rank := z6650.rank, all := z6650.all } : label_Lattice).meet, rank := ({ up := z6650.up, down := z6650.down, join := (z6650.join ++ ([z6968])), meet := (z6650.meet ++ ([z6971])), rank := z6650.rank, all := z6650.all } : label_Lattice).rank, all := ((({ up := z6650.up, down := z6650.down, join := (z6650.join ++ ([z6968])), meet := (z6650.meet ++ ([z6971])), rank := z6650.rank, all := z6650.all } : label_Lattice).all) ++ ([z6651])) } : label_Lattice), (IntKind.i64.wrap (z6651 + (1:Int)))))))
noncomputable def label_New_j6 (z6650 : label_Lattice) (z6651 : Int) (s : ((List Int) × (List Int))) : Option ((label_Lattice × Int) ⊕ ((label_Lattice) ⊕ (Option label_Lattice × Int))) :=
  match s with | (z6968, z6971) => (((gd (room z6650.join ([z6968])) (gd (room z6650.meet ([z6971])) (some ())))).bind (label_New_j8 z6650 z6968 z6971 z6651))
noncomputable def label_New_l5 (a0 : (List Int)) (s : (label_Lattice × Int)) : Option ((label_Lattice × Int) ⊕ ((label_Lattice) ⊕ (Option label_Lattice × Int))) :=
  match s with | (z6650, z6651) => (bif (decide (z6651 < ((a0).length : Int))) then (joinO (loopO (label_New_l7 a0 z6650 z6651) ([], [], (0:Int))) (label_New_j6 z6650 z6651)) else (inrO (some (Sum.inl z6650))))
noncomputable def label_New_l12 (z8238 : Int) (z7110 : label_Lattice) (z8608 : Int) (s : (Int × (List Int))) : Option ((Int × (List Int)) ⊕ ((Int × (List Int)) ⊕ ((List Int)))) :=
  match s with | (z8731, z8732) => (bif (decide (z8731 > z8238)) then ((geto z8732 z8731).bind fun x8742 => ((geto z8732 (IntKind.i64.wrap (z8731 - (1:Int)))).bind fun x8747 => (((geto z7110.down x8742).bind fun x8752 => ((geto z7110.down x8747).bind fun x8757 => ((math_bits_OnesCount64 x8752).bind fun t8762 => ((math_bits_OnesCount64 x8757).bind fun t8767 => ((cmp_Compare_int t8762 t8767).bind fun t8772 => (some t8772)))))).bind fun z8777 => (bif (decide (z8777 < (0:Int))) then ((geto (z8732.set z8731.toNat x8747) (IntKind.i64.wrap (z8731 - (1:Int)))).bind fun x8787 => (some (Sum.inl ((IntKind.i64.wrap (z8731 - (1:Int))), ((z8732.set z8731.toNat x8747).set (IntKind.i64.wrap (z8731 - (1:Int))).toNat x8742))))) else (inrO (some (Sum.inl ((IntKind.i64.wrap (z8608 + (1:Int))), z8732)))))))) else (inrO (some (Sum.inl ((IntKind.i64.wrap (z8608 + (1:Int))), z8732)))))
noncomputable def label_New_l11 (z8239 : Int) (z8238 : Int) (z7110 : label_Lattice) (s : (Int × (List Int))) : Option ((Int × (List Int)) ⊕ ((List Int))) :=
  match s with | (z8608, z8609) => (bif (decide (z8608 < z8239)) then (loopO (label_New_l12 z8238 z7110 z8608) (z8608, z8609)) else (inrO (some z8609)))
noncomputable def label_New_l10 (z7110 : label_Lattice) (s : (Int × Int × (List Int))) : Option ((Int × Int × (List Int)) ⊕ ((List Int) × Int)) :=
  match s with | (z8238, z8239, z8240) => (bif (decide (z8239 ≤ ((z7110.all).length : Int))) then ((loopO (label_New_l11 z8239 z8238 z7110) ((IntKind.i64.wrap (z8238 + (1:Int))), z8240)).bind fun z8796 => (some (Sum.inl (z8239, (IntKind.i64.wrap (z8239 + (20:Int))), z8796)))) else (inrO (some (z8240, z8238))))
noncomputable def label_New_l14 (z8802 : Int) (z7110 : label_Lattice) (z9166 : Int) (s : (Int × (List Int))) : Option ((Int × (List Int)) ⊕ ((Int × (List Int)) ⊕ ((List Int)))) :=
  match s with | (z9289, z9290) => (bif (decide (z9289 > z8802)) then ((geto z9290 z9289).bind fun x9300 => ((geto z9290 (IntKind.i64.wrap (z9289 - (1:Int)))).bind fun x9305 => (((geto z7110.down x9300).bind fun x9310 => ((geto z7110.down x9305).bind fun x9315 => ((math_bits_OnesCount64 x9310).bind fun t9320 => ((math_bits_OnesCount64 x9315).bind fun t9325 => ((cmp_Compare_int t9320 t9325).bind fun t9330 => (some t9330)))))).bind fun z9335 => (bif (decide (z9335 < (0:Int))) then ((geto (z9290.set z9289.toNat x9305) (IntKind.i64.wrap (z9289 - (1:Int)))).bind fun x9345 => (some (Sum.inl ((IntKind.i64.wrap (z9289 - (1:Int))), ((z9290.set z9289.toNat x9305).set (IntKind.i64.wrap (z9289 - (1:Int))).toNat x9300))))) else (inrO (some (Sum.inl ((IntKind.i64.wrap (z9166 + (1:Int))), z9290)))))))) else (inrO (some (Sum.inl ((IntKind.i64.wrap (z9166 + (1:Int))), z9290)))))
noncomputable def label_New_l13 (z7110 : label_Lattice) (z8802 : Int) (s : (Int × (List Int))) : Option ((Int × (List Int)) ⊕ ((List Int))) :=
  match s with | (z9166, z9167) => (bif (decide (z9166 < ((z7110.all).length : Int))) then (loopO (label_New_l14 z8802 z7110 z9166) (z9166, z9167)) else (inrO (some z9167)))
noncomputable def label_New_l17 (z9394 : Int) (z7110 : label_Lattice) (_s : Unit) : Option (Unit ⊕ Unit) :=
  (bif (decide ((IntKind.i64.wrap ((2:Int) * z9394)) ≤ ((z7110.all).length : Int))) then none else (inrO (some ())))
noncomputable def label_New_j16 (z9394 : Int) (z7110 : label_Lattice) (_s : Unit) : Option ((Int) ⊕ ((List Int))) :=
  (bif (decide ((IntKind.i64.wrap ((0:Int) + z9394)) < ((z7110.all).length : Int))) then none else (some (Sum.inl (IntKind.i64.wrap (z9394 * (2:Int))))))
noncomputable def label_New_l15 (z7110 : label_Lattice) (z9354 : (List Int)) (z9394 : (Int)) : Option ((Int) ⊕ ((List Int))) :=
  (bif (decide (z9394 < ((z7110.all).length : Int))) then (((loopO (label_New_l17 z9394 z7110) ())).bind (label_New_j16 z9394 z7110)) else (inrO (some z9354)))
noncomputable def label_New_j9 (z7110 : label_Lattice) (s : ((List Int) × Int)) : Option ((List Int)) :=
  match s with | (z8801, z8802) => ((loopO (label_New_l13 z7110 z8802) ((IntKind.i64.wrap (z8802 + (1:Int))), z8801)).bind fun z9354 => (loopO (label_New_l15 z7110 z9354) (20:Int)))
noncomputable def label_New_l18 (z9425 : (List Int)) (z7110 : label_Lattice) (s : (Int × (List Int))) : Option ((Int × (List Int)) ⊕ (Option label_Lattice × Int)) :=
  match s with | (z9462, z9463) => (bif (decide (z9462 < ((z9425).length : Int))) then ((geto z9425 z9462).bind fun x9473 => ((geto z9463 x9473).bind fun x9478 => (some (Sum.inl ((IntKind.i64.wrap (z9462 + (1:Int))), (z9463.set x9473.toNat z9462)))))) else (inrO (some ((some ({ up := z7110.up, down := z7110.down, join := z7110.join, meet := z7110.meet, rank := z9463, all := z9425 } : label_Lattice)), (0:Int)))))
noncomputable def label_New_j4 (z7110 : (label_Lattice)) : Option (Option label_Lattice × Int) :=
  (((((loopO (label_New_l10 z7110) ((0:Int), (20:Int), z7110.all))).bind (label_New_j9 z7110)).bind fun z9420 => (some z9420)).bind fun z9425 => (loopO (label_New_l18 z9425 z7110) ((0:Int), z7110.rank)))
noncomputable def label_New_j1 (a0 : (List Int)) (z5766 : (label_Lattice)) : Option (Option label_Lattice × Int) :=
  (joinO (loopO (label_New_l5 a0) (z5766, (0:Int))) (label_New_j4))
noncomputable def label_New_j0 (a0 : (List Int)) (z5460 : (label_Lattice)) : Option (Option label_Lattice × Int) :=
  ((label_Lattice_orders (some z5460)).bind fun t5466 => (bif (!t5466) then (some (none, (15:Int))) else (((loopO (label_New_l2 a0) (z5460, (0:Int)))).bind (label_New_j1 a0))))
noncomputable def label_New (a0 : (List Int)) : Option (Option label_Lattice × Int) :=
  (bif (decide (((a0).length : Int) < (1:Int))) then (some (none, (1:Int))) else (bif (decide (((a0).length : Int) > (16:Int))) then (some (none, (1:Int))) else ((((slices_Clone_uint64_uint64 a0).bind fun t4780 => (gd (mkOK ((a0).length : Int) ((a0).length : Int)) (gd (mkOK ((a0).length : Int) ((a0).length : Int)) (some ({ up := t4780, down := (List.replicate (Int.toNat ((a0).length : Int)) (0:Int)), join := [], meet := [], rank := (List.replicate (Int.toNat ((a0).length : Int)) (0:Int)), all := [] } : label_Lattice)))))).bind (label_New_j0 a0))))

noncomputable def config_New_j2 (a0 : api_Config) (z118 : (Bool)) : Option (Option config_Plan × Int) :=
  (bif z118 then (some (none, (1:Int))) else (bif (decide (a0.Beat < (1:Int))) then (some (none, (1:Int))) else (bif (decide (a0.Elect ≤ a0.Beat)) then (some (none, (1:Int))) else (bif (decide (a0.Elect > (1000:Int))) then (some (none, (1:Int))) else ((label_New a0.Up).bind fun t132 => (bif (t132.2 != (0:Int)) then (some (none, t132.2)) else (some ((some ({ C := a0, L := t132.1 } : config_Plan)), (0:Int)))))))))
noncomputable def config_New_j1 (a0 : api_Config) (z107 : (Bool)) : Option (Option config_Plan × Int) :=
  (bif z107 then (some (none, (1:Int))) else (((bif (decide (a0.Quota < (1:Int))) then (some true) else (bif (decide (a0.Quota > (268435456:Int))) then (some (decide (a0.Quota > (268435456:Int)))) else (bif (decide (a0.Wide < (0:Int))) then (some true) else (some (decide (a0.Wide > (256:Int)))))))).bind (config_New_j2 a0)))
noncomputable def config_New_j0 (a0 : api_Config) (z96 : (Bool)) : Option (Option config_Plan × Int) :=
  (bif z96 then (some (none, (1:Int))) else (((bif (decide (a0.Frame < (64:Int))) then (some true) else (bif (decide (a0.Frame > (4096:Int))) then (some (decide (a0.Frame > (4096:Int)))) else (bif (decide (a0.Depth < (1:Int))) then (some true) else (some (decide (a0.Depth > (65536:Int)))))))).bind (config_New_j1 a0)))
noncomputable def config_New (a0 : api_Config) : Option (Option config_Plan × Int) :=
  (((bif (decide (a0.Nodes < (1:Int))) then (some true) else (bif (decide (a0.Nodes > (7:Int))) then (some (decide (a0.Nodes > (7:Int)))) else (bif (decide (((a0.Cuts).length : Int) ≥ (8:Int))) then (some (decide (((a0.Cuts).length : Int) ≥ (8:Int)))) else ((number_Rising a0.Cuts).bind fun t91 => (some (!t91))))))).bind (config_New_j0 a0))

noncomputable def net_New (a0 : (Option config_Plan)) : Option (net_Net) :=
  (some ({ p := a0, m := none } : net_Net))

noncomputable def law21_open : Option (Option net_Net) :=
  ((ref04_Small (0:Int)).bind fun t42 => ((config_New ({ Up := t42.Up, Nodes := (3:Int), Cuts := t42.Cuts, Frame := t42.Frame, Depth := t42.Depth, Quota := t42.Quota, Wide := t42.Wide, Beat := t42.Beat, Elect := t42.Elect } : api_Config)).bind fun t68 => (bif (t68.2 != (0:Int)) then (some none) else ((net_New t68.1).bind fun t77 => (some (some t77))))))

noncomputable def config_Plan_Node (a0 : (Option config_Plan)) (a1 : Int) : Option (Bool) :=
  (match a0 with | none => (some false) | some o0 => (bif (decide (a1 ≥ (0:Int))) then (some (decide (a1 < o0.C.Nodes))) else (some false)))

noncomputable def label_Lattice_Len (a0 : (Option label_Lattice)) : Option (Int) :=
  (match a0 with | none => (some (0:Int)) | some o0 => (some ((o0.up).length : Int)))

noncomputable def config_Plan_L0 (a0 : (Option config_Plan)) : Option (Int) :=
  (match a0 with | none => (some (0:Int)) | some o0 => ((label_Lattice_Len o0.L).bind fun t77 => (some t77)))

noncomputable def config_Plan_Shards (a0 : (Option config_Plan)) : Option (Int) :=
  (match a0 with | none => (some (0:Int)) | some o0 => (some (IntKind.i64.wrap (((o0.C.Cuts).length : Int) + (1:Int)))))

noncomputable def config_Plan_Lanes (a0 : (Option config_Plan)) : Option (Int) :=
  ((config_Plan_L0 a0).bind fun t63 => ((config_Plan_Shards a0).bind fun t68 => (some (IntKind.i64.wrap ((IntKind.i64.wrap (t63 * t68)) + (1:Int))))))

noncomputable def config_Plan_Rules (a0 : (Option config_Plan)) : Option (Int) :=
  ((config_Plan_Lanes a0).bind fun t64 => (some (IntKind.i64.wrap (t64 - (1:Int)))))

noncomputable def label_Lattice_Bottom (a0 : (Option label_Lattice)) : Option (Int) :=
  (match a0 with | none => (some ((-1):Int)) | some o0 => ((geto o0.all (0:Int)).bind fun x106 => (some x106)))

noncomputable def config_Plan_Label (a0 : (Option config_Plan)) (a1 : Int) : Option (Int) :=
  (match a0 with | none => (some ((-1):Int)) | some o0 => (bif (decide (a1 < (0:Int))) then (some ((-1):Int)) else ((config_Plan_Lanes (some o0)).bind fun t95 => (bif (decide (a1 ≥ t95)) then (some ((-1):Int)) else ((config_Plan_Rules (some o0)).bind fun t101 => (bif (a1 == t101) then ((label_Lattice_Bottom o0.L).bind fun t117 => (some t117)) else ((config_Plan_Shards (some o0)).bind fun t122 => (gd (!(t122 == (0:Int))) (some (IntKind.i64.wrap (Int.tdiv a1 t122)))))))))))

noncomputable def net_Net_is (a0 : (Option net_Net)) (a1 : net_Link) : Option (Bool) :=
  (match a0 with | none => (some false) | some o0 => ((config_Plan_Node o0.p a1.From).bind fun t84 => (bif t84 then ((config_Plan_Node o0.p a1.To).bind fun t90 => (bif t90 then (bif (a1.From != a1.To) then ((config_Plan_Label o0.p a1.Lane).bind fun t97 => (some (decide (t97 ≥ (0:Int))))) else (some false)) else (some false))) else (some false))))

noncomputable def slices_Clone_byte_byte (a0 : (List Int)) : Option ((List Int)) :=
  gd (room ([] : (List Int)) a0) (some a0)

noncomputable def net_Net_Put (a0 : (Option net_Net)) (a1 : net_Link) (a2 : (List Int)) : Option (Int × (Option net_Net)) :=
  (match a0 with | none => ((net_Net_is none a1).bind fun t154 => (bif (!t154) then (some ((1:Int), none)) else none)) | some o0 => ((net_Net_is (some o0) a1).bind fun t165 => (bif (!t165) then (some ((1:Int), (some o0))) else (match o0.m with | none => ((slices_Clone_byte_byte a2).bind fun t179 => (gd (room ([] : List (List Int)) ([t179])) (gd (fits ([t179]) (if (IntKind.i64.wrap ((([t179]).length : Int) - (256:Int))) > (0:Int) then (IntKind.i64.wrap ((([t179]).length : Int) - (256:Int))) else (0:Int)) ((([t179]).length : Nat) : Int)) (some ((0:Int), (some ({ p := o0.p, m := (some (a1, (subs ([t179]) (if (IntKind.i64.wrap ((([t179]).length : Int) - (256:Int))) > (0:Int) then (IntKind.i64.wrap ((([t179]).length : Int) - (256:Int))) else (0:Int)) ((([t179]).length : Nat) : Int)))) } : net_Net))))))) | some y176 => (bif ((a1.From == y176.1.From) && (a1.To == y176.1.To) && (a1.Lane == y176.1.Lane)) then ((slices_Clone_byte_byte a2).bind fun t210 => (gd (room y176.2 ([t210])) (gd (fits (y176.2 ++ ([t210])) (if (IntKind.i64.wrap ((((y176.2 ++ ([t210]))).length : Int) - (256:Int))) > (0:Int) then (IntKind.i64.wrap ((((y176.2 ++ ([t210]))).length : Int) - (256:Int))) else (0:Int)) ((((y176.2 ++ ([t210]))).length : Nat) : Int)) (some ((0:Int), (some ({ p := o0.p, m := (some (a1, (subs (y176.2 ++ ([t210])) (if (IntKind.i64.wrap ((((y176.2 ++ ([t210]))).length : Int) - (256:Int))) > (0:Int) then (IntKind.i64.wrap ((((y176.2 ++ ([t210]))).length : Int) - (256:Int))) else (0:Int)) ((((y176.2 ++ ([t210]))).length : Nat) : Int)))) } : net_Net))))))) else ((slices_Clone_byte_byte a2).bind fun t239 => (gd (room ([] : List (List Int)) ([t239])) (gd (fits ([t239]) (if (IntKind.i64.wrap ((([t239]).length : Int) - (256:Int))) > (0:Int) then (IntKind.i64.wrap ((([t239]).length : Int) - (256:Int))) else (0:Int)) ((([t239]).length : Nat) : Int)) none))))))))

noncomputable def net_Net_place (a0 : (Option net_Net)) (a1 : net_Link) (a2 : Int) : Option (Int) :=
  (match a0 with | none => ((net_Net_is none a1).bind fun t145 => (bif (!t145) then (some ((-1):Int)) else none)) | some o0 => (match o0.m with | none => ((net_Net_is (some o0) a1).bind fun t163 => (bif (!t163) then (some ((-1):Int)) else (bif (((([] : List (List Int))).length : Int) == (0:Int)) then (some ((-1):Int)) else (gd (!((IntKind.u64.wrap ((([] : List (List Int))).length : Int)) == (0:Int))) (some (IntKind.i64.wrap (Int.tmod (IntKind.u64.wrap a2) (IntKind.u64.wrap ((([] : List (List Int))).length : Int))))))))) | some y161 => (bif ((a1.From == y161.1.From) && (a1.To == y161.1.To) && (a1.Lane == y161.1.Lane)) then ((net_Net_is (some o0) a1).bind fun t184 => (bif (!t184) then (some ((-1):Int)) else (bif (((y161.2).length : Int) == (0:Int)) then (some ((-1):Int)) else (gd (!((IntKind.u64.wrap ((y161.2).length : Int)) == (0:Int))) (some (IntKind.i64.wrap (Int.tmod (IntKind.u64.wrap a2) (IntKind.u64.wrap ((y161.2).length : Int))))))))) else ((net_Net_is (some o0) a1).bind fun t202 => (bif (!t202) then (some ((-1):Int)) else (bif (((([] : List (List Int))).length : Int) == (0:Int)) then (some ((-1):Int)) else (gd (!((IntKind.u64.wrap ((([] : List (List Int))).length : Int)) == (0:Int))) (some (IntKind.i64.wrap (Int.tmod (IntKind.u64.wrap a2) (IntKind.u64.wrap ((([] : List (List Int))).length : Int))))))))))))

noncomputable def slices_Delete_byte_byte (a0 : (List (List Int))) (a1 a2 : Int) : Option ((List (List Int))) :=
  gd (fits a0 a1 a2) (some (del a0 a1 a2))

noncomputable def net_Net_Take (a0 : (Option net_Net)) (a1 : net_Link) (a2 : Int) : Option ((List Int) × Bool × (Option net_Net)) :=
  (match a0 with | none => ((net_Net_place none a1 a2).bind fun t117 => (bif (decide (t117 < (0:Int))) then (some ([], false, none)) else none)) | some o0 => ((net_Net_place (some o0) a1 a2).bind fun t131 => (bif (decide (t131 < (0:Int))) then (some ([], false, (some o0))) else (match o0.m with | none => none | some y144 => (bif ((a1.From == y144.1.From) && (a1.To == y144.1.To) && (a1.Lane == y144.1.Lane)) then ((geto y144.2 t131).bind fun x152 => ((slices_Delete_byte_byte y144.2 t131 (IntKind.i64.wrap (t131 + (1:Int)))).bind fun t163 => (some (x152, true, (some ({ p := o0.p, m := (some (a1, t163)) } : net_Net)))))) else none)))))

noncomputable def net_Net_Len (a0 : (Option net_Net)) (a1 : net_Link) : Option (Int) :=
  (match a0 with | none => ((net_Net_is none a1).bind fun t100 => (bif (!t100) then (some (0:Int)) else none)) | some o0 => ((net_Net_is (some o0) a1).bind fun t111 => (bif (!t111) then (some (0:Int)) else (match o0.m with | none => (some ((([] : List (List Int))).length : Int)) | some y122 => (bif ((a1.From == y122.1.From) && (a1.To == y122.1.To) && (a1.Lane == y122.1.Lane)) then (some ((y122.2).length : Int)) else (some ((([] : List (List Int))).length : Int)))))))

noncomputable def law21_awake : Option (Bool) :=
  (law21_open.bind fun t62 => (bif (t62.isNone) then (some false) else ((net_Net_Put t62 ({ From := (0:Int), To := (1:Int), Lane := (2:Int) } : net_Link) ([(97:Int)])).bind fun t88 => ((net_Net_Put t88.2 ({ From := (0:Int), To := (1:Int), Lane := (2:Int) } : net_Link) ([(98:Int)])).bind fun t103 => ((net_Net_Take t103.2 ({ From := (0:Int), To := (1:Int), Lane := (2:Int) } : net_Link) (3:Int)).bind fun t108 => (bif t108.2.1 then (bif (sEq (toStr t108.1) (ByteArray.mk #[98])) then ((net_Net_Len t108.2.2 ({ From := (0:Int), To := (1:Int), Lane := (2:Int) } : net_Link)).bind fun t118 => (some (t118 == (1:Int)))) else (some false)) else (some false)))))))

noncomputable def net_Net_Double (a0 : (Option net_Net)) (a1 : net_Link) (a2 : Int) : Option (Bool × (Option net_Net)) :=
  (match a0 with | none => ((net_Net_place none a1 a2).bind fun t178 => (bif (decide (t178 < (0:Int))) then (some (false, none)) else none)) | some o0 => ((net_Net_place (some o0) a1 a2).bind fun t189 => (match o0.m with | none => (bif (decide (t189 < (0:Int))) then (some (false, (some o0))) else (bif (decide (((([] : List (List Int))).length : Int) ≥ (256:Int))) then (some (false, (some o0))) else none)) | some y199 => (bif ((a1.From == y199.1.From) && (a1.To == y199.1.To) && (a1.Lane == y199.1.Lane)) then (bif (decide (t189 < (0:Int))) then (some (false, (some o0))) else (bif (decide (((y199.2).length : Int) ≥ (256:Int))) then (some (false, (some o0))) else ((geto y199.2 t189).bind fun x212 => ((slices_Clone_byte_byte x212).bind fun t223 => (gd (room y199.2 ([t223])) (some (true, (some ({ p := o0.p, m := (some (a1, (y199.2 ++ ([t223])))) } : net_Net))))))))) else (bif (decide (t189 < (0:Int))) then (some (false, (some o0))) else (bif (decide (((([] : List (List Int))).length : Int) ≥ (256:Int))) then (some (false, (some o0))) else none))))))

noncomputable def law21_NetMost_l1 (a0 : Int) (s : ((Option net_Net) × Int)) : Option (((Option net_Net) × Int) ⊕ ((Option net_Net))) :=
  match s with | (z164, z165) => (bif (decide (z165 < (IntKind.i64.wrap ((200:Int) + (Int.tmod (IntKind.i64.wrap a0) (120:Int)))))) then ((net_Net_Put z164 ({ From := (2:Int), To := (0:Int), Lane := (1:Int) } : net_Link) ([(IntKind.u8.wrap z165), (IntKind.u8.wrap (IntKind.i64.wrap (Int.tdiv z165 (256:Int))))])).bind fun t183 => (some (Sum.inl (t183.2, (IntKind.i64.wrap (z165 + (1:Int))))))) else (inrO (some z164)))
noncomputable def law21_NetMost_j2 (z188 : (Option net_Net)) (a0 : Int) (z197 : (Int)) : Option (Bool) :=
  ((net_Net_Double z188 ({ From := (2:Int), To := (0:Int), Lane := (1:Int) } : net_Link) (0:Int)).bind fun t203 => ((net_Net_Take t203.2 ({ From := (2:Int), To := (0:Int), Lane := (1:Int) } : net_Link) (0:Int)).bind fun t208 => (bif (t203.1 == (decide ((IntKind.i64.wrap ((200:Int) + (Int.tmod (IntKind.i64.wrap a0) (120:Int)))) < (256:Int)))) then (bif t208.2.1 then ((geto t208.1 (0:Int)).bind fun x218 => (bif (x218 == (IntKind.u8.wrap z197)) then ((geto t208.1 (1:Int)).bind fun x224 => (some (x224 == (IntKind.u8.wrap (IntKind.i64.wrap (Int.tdiv z197 (256:Int))))))) else (some false))) else (some false)) else (some false))))
noncomputable def law21_NetMost_j0 (a0 : Int) (z188 : ((Option net_Net))) : Option (Bool) :=
  (((bif (decide ((IntKind.i64.wrap ((200:Int) + (Int.tmod (IntKind.i64.wrap a0) (120:Int)))) > (256:Int))) then (some (IntKind.i64.wrap ((IntKind.i64.wrap ((200:Int) + (Int.tmod (IntKind.i64.wrap a0) (120:Int)))) - (256:Int)))) else (some (0:Int)))).bind (law21_NetMost_j2 z188 a0))
noncomputable def law21_NetMost (a0 : Int) : Option (Bool) :=
  (law21_awake.bind fun t115 => (bif (!t115) then (some false) else (law21_open.bind fun t121 => (((loopO (law21_NetMost_l1 a0) (t121, (0:Int)))).bind (law21_NetMost_j0 a0)))))
end Go.Proofs.Ytbdbeenkamcglaa
