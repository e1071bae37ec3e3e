/- The models of the Go functions: plain Lean, no memory. -/
import Derived.Test.YtkjkbfaaigmmcaaConfigNearGv
set_option linter.unusedVariables false
set_option linter.unusedSimpArgs false
set_option maxRecDepth 100000
set_option maxHeartbeats 4000000
namespace Go.Proofs.Ytkjkbfaaigmmcaa
open Go Go.V
structure api_Config where
  Up : (List Int)
  Nodes : Int
  Cuts : (List Nat)
  Frame : Int
  Depth : Int
  Quota : Int
  Wide : Int
  Beat : Int
  Elect : Int

structure label_Lattice where
  up : (List Int)
  down : (List Int)
  join : (List (List Int))
  meet : (List (List Int))
  rank : (List Int)
  all : (List Int)

structure config_Plan where
  C : api_Config
  L : (Option label_Lattice)

structure api_Rule where
  ID : Int
  From : Int
  To : Int
  Lo : Nat
  Hi : Nat
  Authority : Int
  Quota : Int

structure api_Span where
  Label : Int
  From : Nat
  To : Nat


noncomputable def ref03_Lattices_l2 (z338 : Int) (s : (Int × Int)) : Option ((Int × Int) ⊕ (Int)) :=
  match s with | (z355, z356) => (bif (decide (z356 < (8:Int))) then (bif ((bAnd .i64 z338 z356) == z338) then (gd (decide ((0:Int) ≤ z356)) (some (Sum.inl ((bOr .u64 z355 (iShl .u64 (1:Int) z356)), (IntKind.i64.wrap (z356 + (1:Int))))))) else (some (Sum.inl (z355, (IntKind.i64.wrap (z356 + (1:Int))))))) else (inrO (some z355)))
noncomputable def ref03_Lattices_j1 (z335 : (List Int)) (z338 : Int) (z368 : (Int)) : Option (((List Int) × Int) ⊕ ((List Int))) :=
  (gd (room z335 ([z368])) (some (Sum.inl ((z335 ++ ([z368])), (IntKind.i64.wrap (z338 + (1:Int)))))))
noncomputable def ref03_Lattices_l0 (s : ((List Int) × Int)) : Option (((List Int) × Int) ⊕ ((List Int))) :=
  match s with | (z335, z338) => (bif (decide (z338 < (8:Int))) then (((loopO (ref03_Lattices_l2 z338) ((0:Int), (0:Int)))).bind (ref03_Lattices_j1 z335 z338)) else (inrO (some z335)))
noncomputable def ref03_Lattices (a0 : Int) : Option ((List Int)) :=
  (bif ((Int.tmod a0 (5:Int)) == (0:Int)) then (some ([(3:Int), (2:Int)])) else (bif ((Int.tmod a0 (5:Int)) == (1:Int)) then (some ([(1:Int)])) else (bif ((Int.tmod a0 (5:Int)) == (2:Int)) then (some ([(1:Int), (3:Int), (7:Int)])) else (bif ((Int.tmod a0 (5:Int)) == (3:Int)) then (some ([(15:Int), (10:Int), (12:Int), (8:Int)])) else (loopO (ref03_Lattices_l0) ([], (0:Int)))))))

noncomputable def ref04_Small_j0 (a0 : Int) (z93 : ((List Int))) : Option (api_Config) :=
  (bif ((Int.tmod (IntKind.u8.wrap (Int.tdiv a0 (16:Int))) (2:Int)) == (1:Int)) then (some ({ Up := z93, Nodes := (IntKind.i64.wrap ((1:Int) + (Int.tmod (IntKind.i64.wrap (IntKind.u8.wrap (Int.tdiv a0 (5:Int)))) (3:Int)))), Cuts := [(0:Nat)], Frame := (128:Int), Depth := (512:Int), Quota := (1048576:Int), Wide := (8:Int), Beat := (2:Int), Elect := (4:Int) } : api_Config)) else (some ({ Up := z93, Nodes := (IntKind.i64.wrap ((1:Int) + (Int.tmod (IntKind.i64.wrap (IntKind.u8.wrap (Int.tdiv a0 (5:Int)))) (3:Int)))), Cuts := [], Frame := (128:Int), Depth := (512:Int), Quota := (1048576:Int), Wide := (8:Int), Beat := (2:Int), Elect := (4:Int) } : api_Config)))
noncomputable def ref04_Small (a0 : Int) : Option (api_Config) :=
  ((ref03_Lattices a0).bind fun t63 => (((bif ((Int.tmod a0 (5:Int)) == (4:Int)) then ((ref03_Lattices (0:Int)).bind fun t82 => (some t82)) else (some t63))).bind (ref04_Small_j0 a0)))

noncomputable def math_IsNaN (a0 : Nat) : Option (Bool) :=
  (some (fNe a0 a0))

noncomputable def number_Rank (a0 : Nat) : Option (Int) :=
  ((math_IsNaN a0).bind fun t74 => (bif t74 then (some (18446744073709551615:Int)) else (bif ((iShr .u64 (Int.ofNat a0) (63:Int)) == (1:Int)) then (some (bXor .u64 ((18446744073709551615):Int) (Int.ofNat a0))) else (some (bOr .u64 (Int.ofNat a0) (9223372036854775808:Int))))))

noncomputable def number_Less (a0 : Nat) (a1 : Nat) : Option (Bool) :=
  ((number_Rank a0).bind fun t77 => ((number_Rank a1).bind fun t82 => (some (decide (t77 < t82)))))

noncomputable def number_Rising_l0 (a0 : (List Nat)) (z163 : (Int)) : Option ((Int) ⊕ (Bool)) :=
  (bif (decide (z163 < ((a0).length : Int))) then ((geto a0 (IntKind.i64.wrap (z163 - (1:Int)))).bind fun x173 => ((geto a0 z163).bind fun x178 => ((number_Less x173 x178).bind fun t183 => (bif (!t183) then (inrO (some false)) else (some (Sum.inl (IntKind.i64.wrap (z163 + (1:Int))))))))) else (inrO (some true)))
noncomputable def number_Rising (a0 : (List Nat)) : Option (Bool) :=
  (loopO (number_Rising_l0 a0) (1:Int))

noncomputable def slices_Clone_uint64_uint64 (a0 : (List Int)) : Option ((List Int)) :=
  gd (room ([] : (List Int)) a0) (some a0)

noncomputable def label_Lattice_orders_l1 (o0 : label_Lattice) (x1091 : Int) (z1081 : Int) (z1124 : (Int)) : Option ((Int) ⊕ ((Int) ⊕ (Bool))) :=
  (bif (decide (z1124 < ((o0.up).length : Int))) then (gd (decide ((0:Int) ≤ z1124)) (bif ((bAnd .u64 (iShr .u64 x1091 z1124) (1:Int)) == (1:Int)) then ((geto o0.up z1124).bind fun x1136 => (bif ((bAndNot .u64 x1136 x1091) != (0:Int)) then (inrO (inrO (some false))) else (bif (z1081 != z1124) then (gd (decide ((0:Int) ≤ z1081)) (bif ((bAnd .u64 (iShr .u64 x1136 z1081) (1:Int)) == (1:Int)) then (inrO (inrO (some false))) else (some (Sum.inl (IntKind.i64.wrap (z1124 + (1:Int))))))) else (some (Sum.inl (IntKind.i64.wrap (z1124 + (1:Int)))))))) else (some (Sum.inl (IntKind.i64.wrap (z1124 + (1:Int))))))) else (inrO (some (Sum.inl (IntKind.i64.wrap (z1081 + (1:Int)))))))
noncomputable def label_Lattice_orders_l0 (o0 : label_Lattice) (z1081 : (Int)) : Option ((Int) ⊕ (Bool)) :=
  (bif (decide (z1081 < ((o0.up).length : Int))) then ((geto o0.up z1081).bind fun x1091 => (gd (decide ((0:Int) ≤ ((o0.up).length : Int))) (bif ((iShr .u64 x1091 ((o0.up).length : Int)) != (0:Int)) then (inrO (some false)) else (gd (decide ((0:Int) ≤ z1081)) (bif ((bAnd .u64 (iShr .u64 x1091 z1081) (1:Int)) == (0:Int)) then (inrO (some false)) else (loopO (label_Lattice_orders_l1 o0 x1091 z1081) (0:Int))))))) else (inrO (some true)))
noncomputable def label_Lattice_orders (a0 : (Option label_Lattice)) : Option (Bool) :=
  (match a0 with | none => none | some o0 => (loopO (label_Lattice_orders_l0 o0) (0:Int)))

noncomputable def label_least_l0 (a1 : (List Int)) (a0 : Int) (z1153 : (Int)) : Option ((Int) ⊕ (Int × Bool)) :=
  (bif (decide (z1153 < ((a1).length : Int))) then (gd (decide ((0:Int) ≤ z1153)) (bif ((bAnd .u64 (iShr .u64 a0 z1153) (1:Int)) == (1:Int)) then ((geto a1 z1153).bind fun x1165 => (bif ((bAndNot .u64 a0 x1165) == (0:Int)) then (inrO (some (z1153, true))) else (some (Sum.inl (IntKind.i64.wrap (z1153 + (1:Int))))))) else (some (Sum.inl (IntKind.i64.wrap (z1153 + (1:Int))))))) else (inrO (some ((0:Int), false))))
noncomputable def label_least (a0 : Int) (a1 : (List Int)) : Option (Int × Bool) :=
  (loopO (label_least_l0 a1 a0) (0:Int))

noncomputable def math_bits_OnesCount64 (a0 : Int) : Option (Int) :=
  (some (bAnd .i64 (IntKind.i64.wrap (IntKind.u64.wrap ((IntKind.u64.wrap ((IntKind.u64.wrap ((bAnd .u64 (IntKind.u64.wrap ((iShr .u64 (IntKind.u64.wrap ((bAnd .u64 (iShr .u64 (IntKind.u64.wrap ((bAnd .u64 (iShr .u64 a0 (1:Int)) (6148914691236517205:Int)) + (bAnd .u64 a0 (6148914691236517205:Int)))) (2:Int)) (3689348814741910323:Int)) + (bAnd .u64 (IntKind.u64.wrap ((bAnd .u64 (iShr .u64 a0 (1:Int)) (6148914691236517205:Int)) + (bAnd .u64 a0 (6148914691236517205:Int)))) (3689348814741910323:Int)))) (4:Int)) + (IntKind.u64.wrap ((bAnd .u64 (iShr .u64 (IntKind.u64.wrap ((bAnd .u64 (iShr .u64 a0 (1:Int)) (6148914691236517205:Int)) + (bAnd .u64 a0 (6148914691236517205:Int)))) (2:Int)) (3689348814741910323:Int)) + (bAnd .u64 (IntKind.u64.wrap ((bAnd .u64 (iShr .u64 a0 (1:Int)) (6148914691236517205:Int)) + (bAnd .u64 a0 (6148914691236517205:Int)))) (3689348814741910323:Int)))))) (1085102592571150095:Int)) + (iShr .u64 (bAnd .u64 (IntKind.u64.wrap ((iShr .u64 (IntKind.u64.wrap ((bAnd .u64 (iShr .u64 (IntKind.u64.wrap ((bAnd .u64 (iShr .u64 a0 (1:Int)) (6148914691236517205:Int)) + (bAnd .u64 a0 (6148914691236517205:Int)))) (2:Int)) (3689348814741910323:Int)) + (bAnd .u64 (IntKind.u64.wrap ((bAnd .u64 (iShr .u64 a0 (1:Int)) (6148914691236517205:Int)) + (bAnd .u64 a0 (6148914691236517205:Int)))) (3689348814741910323:Int)))) (4:Int)) + (IntKind.u64.wrap ((bAnd .u64 (iShr .u64 (IntKind.u64.wrap ((bAnd .u64 (iShr .u64 a0 (1:Int)) (6148914691236517205:Int)) + (bAnd .u64 a0 (6148914691236517205:Int)))) (2:Int)) (3689348814741910323:Int)) + (bAnd .u64 (IntKind.u64.wrap ((bAnd .u64 (iShr .u64 a0 (1:Int)) (6148914691236517205:Int)) + (bAnd .u64 a0 (6148914691236517205:Int)))) (3689348814741910323:Int)))))) (1085102592571150095:Int)) (8:Int)))) + (iShr .u64 (IntKind.u64.wrap ((bAnd .u64 (IntKind.u64.wrap ((iShr .u64 (IntKind.u64.wrap ((bAnd .u64 (iShr .u64 (IntKind.u64.wrap ((bAnd .u64 (iShr .u64 a0 (1:Int)) (6148914691236517205:Int)) + (bAnd .u64 a0 (6148914691236517205:Int)))) (2:Int)) (3689348814741910323:Int)) + (bAnd .u64 (IntKind.u64.wrap ((bAnd .u64 (iShr .u64 a0 (1:Int)) (6148914691236517205:Int)) + (bAnd .u64 a0 (6148914691236517205:Int)))) (3689348814741910323:Int)))) (4:Int)) + (IntKind.u64.wrap ((bAnd .u64 (iShr .u64 (IntKind.u64.wrap ((bAnd .u64 (iShr .u64 a0 (1:Int)) (6148914691236517205:Int)) + (bAnd .u64 a0 (6148914691236517205:Int)))) (2:Int)) (3689348814741910323:Int)) + (bAnd .u64 (IntKind.u64.wrap ((bAnd .u64 (iShr .u64 a0 (1:Int)) (6148914691236517205:Int)) + (bAnd .u64 a0 (6148914691236517205:Int)))) (3689348814741910323:Int)))))) (1085102592571150095:Int)) + (iShr .u64 (bAnd .u64 (IntKind.u64.wrap ((iShr .u64 (IntKind.u64.wrap ((bAnd .u64 (iShr .u64 (IntKind.u64.wrap ((bAnd .u64 (iShr .u64 a0 (1:Int)) (6148914691236517205:Int)) + (bAnd .u64 a0 (6148914691236517205:Int)))) (2:Int)) (3689348814741910323:Int)) + (bAnd .u64 (IntKind.u64.wrap ((bAnd .u64 (iShr .u64 a0 (1:Int)) (6148914691236517205:Int)) + (bAnd .u64 a0 (6148914691236517205:Int)))) (3689348814741910323:Int)))) (4:Int)) + (IntKind.u64.wrap ((bAnd .u64 (iShr .u64 (IntKind.u64.wrap ((bAnd .u64 (iShr .u64 a0 (1:Int)) (6148914691236517205:Int)) + (bAnd .u64 a0 (6148914691236517205:Int)))) (2:Int)) (3689348814741910323:Int)) + (bAnd .u64 (IntKind.u64.wrap ((bAnd .u64 (iShr .u64 a0 (1:Int)) (6148914691236517205:Int)) + (bAnd .u64 a0 (6148914691236517205:Int)))) (3689348814741910323:Int)))))) (1085102592571150095:Int)) (8:Int)))) (16:Int)))) + (iShr .u64 (IntKind.u64.wrap ((IntKind.u64.wrap ((bAnd .u64 (IntKind.u64.wrap ((iShr .u64 (IntKind.u64.wrap ((bAnd .u64 (iShr .u64 (IntKind.u64.wrap ((bAnd .u64 (iShr .u64 a0 (1:Int)) (6148914691236517205:Int)) + (bAnd .u64 a0 (6148914691236517205:Int)))) (2:Int)) (3689348814741910323:Int)) + (bAnd .u64 (IntKind.u64.wrap ((bAnd .u64 (iShr .u64 a0 (1:Int)) (6148914691236517205:Int)) + (bAnd .u64 a0 (6148914691236517205:Int)))) (3689348814741910323:Int)))) (4:Int)) + (IntKind.u64.wrap ((bAnd .u64 (iShr .u64 (IntKind.u64.wrap ((bAnd .u64 (iShr .u64 a0 (1:Int)) (6148914691236517205:Int)) + (bAnd .u64 a0 (6148914691236517205:Int)))) (2:Int)) (3689348814741910323:Int)) + (bAnd .u64 (IntKind.u64.wrap ((bAnd .u64 (iShr .u64 a0 (1:Int)) (6148914691236517205:Int)) + (bAnd .u64 a0 (6148914691236517205:Int)))) (3689348814741910323:Int)))))) (1085102592571150095:Int)) + (iShr .u64 (bAnd .u64 (IntKind.u64.wrap ((iShr .u64 (IntKind.u64.wrap ((bAnd .u64 (iShr .u64 (IntKind.u64.wrap ((bAnd .u64 (iShr .u64 a0 (1:Int)) (6148914691236517205:Int)) + (bAnd .u64 a0 (6148914691236517205:Int)))) (2:Int)) (3689348814741910323:Int)) + (bAnd .u64 (IntKind.u64.wrap ((bAnd .u64 (iShr .u64 a0 (1:Int)) (6148914691236517205:Int)) + (bAnd .u64 a0 (6148914691236517205:Int)))) (3689348814741910323:Int)))) (4:Int)) + (IntKind.u64.wrap ((bAnd .u64 (iShr .u64 (IntKind.u64.wrap ((bAnd .u64 (iShr .u64 a0 (1:Int)) (6148914691236517205:Int)) + (bAnd .u64 a0 (6148914691236517205:Int)))) (2:Int)) (3689348814741910323:Int)) + (bAnd .u64 (IntKind.u64.wrap ((bAnd .u64 (iShr .u64 a0 (1:Int)) (6148914691236517205:Int)) + (bAnd .u64 a0 (6148914691236517205:Int)))) (3689348814741910323:Int)))))) (1085102592571150095:Int)) (8:Int)))) + (iShr .u64 (IntKind.u64.wrap ((bAnd .u64 (IntKind.u64.wrap ((iShr .u64 (IntKind.u64.wrap ((bAnd .u64 (iShr .u64 (IntKind.u64.wrap ((bAnd .u64 (iShr .u64 a0 (1:Int)) (6148914691236517205:Int)) + (bAnd .u64 a0 (6148914691236517205:Int)))) (2:Int)) (3689348814741910323:Int)) + (bAnd .u64 (IntKind.u64.wrap ((bAnd .u64 (iShr .u64 a0 (1:Int)) (6148914691236517205:Int)) + (bAnd .u64 a0 (6148914691236517205:Int)))) (3689348814741910323:Int)))) (4:Int)) + (IntKind.u64.wrap ((bAnd .u64 (iShr .u64 (IntKind.u64.wrap ((bAnd .u64 (iShr .u64 a0 (1:Int)) (6148914691236517205:Int)) + (bAnd .u64 a0 (6148914691236517205:Int)))) (2:Int)) (3689348814741910323:Int)) + (bAnd .u64 (IntKind.u64.wrap ((bAnd .u64 (iShr .u64 a0 (1:Int)) (6148914691236517205:Int)) + (bAnd .u64 a0 (6148914691236517205:Int)))) (3689348814741910323:Int)))))) (1085102592571150095:Int)) + (iShr .u64 (bAnd .u64 (IntKind.u64.wrap ((iShr .u64 (IntKind.u64.wrap ((bAnd .u64 (iShr .u64 (IntKind.u64.wrap ((bAnd .u64 (iShr .u64 a0 (1:Int)) (6148914691236517205:Int)) + (bAnd .u64 a0 (6148914691236517205:Int)))) (2:Int)) (3689348814741910323:Int)) + (bAnd .u64 (IntKind.u64.wrap ((bAnd .u64 (iShr .u64 a0 (1:Int)) (6148914691236517205:Int)) + (bAnd .u64 a0 (6148914691236517205:Int)))) (3689348814741910323:Int)))) (4:Int)) + (IntKind.u64.wrap ((bAnd .u64 (iShr .u64 (IntKind.u64.wrap ((bAnd .u64 (iShr .u64 a0 (1:Int)) (6148914691236517205:Int)) + (bAnd .u64 a0 (6148914691236517205:Int)))) (2:Int)) (3689348814741910323:Int)) + (bAnd .u64 (IntKind.u64.wrap ((bAnd .u64 (iShr .u64 a0 (1:Int)) (6148914691236517205:Int)) + (bAnd .u64 a0 (6148914691236517205:Int)))) (3689348814741910323:Int)))))) (1085102592571150095:Int)) (8:Int)))) (16:Int)))) (32:Int))))) (127:Int)))

noncomputable def cmp_isNaN_int (a0 : Int) : Option (Bool) :=
  (some (a0 != a0))

noncomputable def cmp_Compare_int (a0 : Int) (a1 : Int) : Option (Int) :=
  ((cmp_isNaN_int a0).bind fun t2481 => ((cmp_isNaN_int a1).bind fun t2486 => (bif t2481 then (bif t2486 then (some (0:Int)) else (some ((-1):Int))) else (bif t2486 then (some (1:Int)) else (bif (decide (a0 < a1)) then (some ((-1):Int)) else (bif (decide (a0 > a1)) then (some (1:Int)) else (some (0:Int))))))))

noncomputable def label_New_l3 (a0 : (List Int)) (x5706 : Int) (z5696 : Int) (s : (label_Lattice × Int)) : Option ((label_Lattice × Int) ⊕ ((label_Lattice × Int) ⊕ (label_Lattice))) :=
  match s with | (z5764, z5765) => (bif (decide (z5765 < ((a0).length : Int))) then (gd (decide ((0:Int) ≤ z5765)) (bif ((bAnd .u64 (iShr .u64 x5706 z5765) (1:Int)) == (1:Int)) then ((geto z5764.down z5765).bind fun x5790 => (gd (decide ((0:Int) ≤ z5696)) (some (Sum.inl (({ up := z5764.up, down := (z5764.down.set z5765.toNat (bOr .u64 x5790 (iShl .u64 (1:Int) z5696))), join := z5764.join, meet := z5764.meet, rank := z5764.rank, all := z5764.all } : label_Lattice), (IntKind.i64.wrap (z5765 + (1:Int)))))))) else (some (Sum.inl (z5764, (IntKind.i64.wrap (z5765 + (1:Int)))))))) else (inrO (some (Sum.inl (z5764, (IntKind.i64.wrap (z5696 + (1:Int))))))))
noncomputable def label_New_l2 (a0 : (List Int)) (s : (label_Lattice × Int)) : Option ((label_Lattice × Int) ⊕ (label_Lattice)) :=
  match s with | (z5695, z5696) => (bif (decide (z5696 < ((a0).length : Int))) then ((geto a0 z5696).bind fun x5706 => (loopO (label_New_l3 a0 x5706 z5696) (z5695, (0:Int)))) else (inrO (some z5695)))
noncomputable def label_New_l7 (a0 : (List Int)) (z6684 : label_Lattice) (z6685 : Int) (s : ((List Int) × (List Int) × Int)) : Option (((List Int) × (List Int) × Int) ⊕ (((List Int) × (List Int)) ⊕ ((label_Lattice × Int) ⊕ ((label_Lattice) ⊕ (Option label_Lattice × Int))))) :=
  match s with | (z6915, z6918, z6921) => (bif (decide (z6921 < ((a0).length : Int))) then ((geto z6684.up z6685).bind fun x6944 => ((geto z6684.up z6921).bind fun x6949 => ((label_least (bAnd .u64 x6944 x6949) z6684.up).bind fun t6956 => ((geto z6684.down z6685).bind fun x6961 => ((geto z6684.down z6921).bind fun x6966 => ((label_least (bAnd .u64 x6961 x6966) z6684.down).bind fun t6973 => (bif (!t6956.2) then (inrO (inrO (inrO (inrO (some (none, (15:Int))))))) else (bif (!t6973.2) then (inrO (inrO (inrO (inrO (some (none, (15:Int))))))) else (gd (room z6915 ([t6956.1])) (gd (room z6918 ([t6973.1])) (some (Sum.inl ((z6915 ++ ([t6956.1])), (z6918 ++ ([t6973.1])), (IntKind.i64.wrap (z6921 + (1:Int)))))))))))))))) else (inrO (some (Sum.inl (z6915, z6918)))))
noncomputable def label_New_j8 (z6684 : label_Lattice) (z7002 : (List Int)) (z7005 : (List Int)) (z6685 : Int) (_s : Unit) : Option ((label_Lattice × Int) ⊕ ((label_Lattice) ⊕ (Option label_Lattice × Int))) :=
  (gd (room (({ up := z6684.up, down := z6684.down, join := (z6684.join ++ ([z7002])), meet := (z6684.meet ++ ([z7005])), rank := z6684.rank, all := z6684.all } : label_Lattice).all) ([z6685])) (some (Sum.inl (({ up := ({ up := z6684.up, down := z6684.down, join := (z6684.join ++ ([z7002])), meet := (z6684.meet ++ ([z7005])), rank := z6684.rank, all := z6684.all } : label_Lattice).up, down := ({ up := z6684.up, down := z6684.down, join := (z6684.join ++ ([z7002])), meet := (z6684.meet ++ ([z7005])), rank := z6684.rank, all := z6684.all } : label_Lattice).down, join := ({ up := z6684.up, down := z6684.down, join := (z6684.join ++ ([z7002])), meet := (z6684.meet ++ ([z7005])), rank := z6684.rank, all := z6684.all } : label_Lattice).join, meet := ({ up := z6684.up, down := z6684.down, join := (z6684.join ++ ([z7002])), meet := (z6684.meet ++ ([z7005])), rank := z6684.rank, all := z6684.all } : label_Lattice).meet, rank := ({ up := z6684.up, down := z6684.down, join := (z6684.join ++ ([z7002])), meet := (z6684.meet ++ ([z7005])), rank := z6684.rank, all := z6684.all } : label_Lattice).rank, all := ((({ up := z6684.up, down := z6684.down, join := (z6684.join ++ ([z7002])), meet := (z6684.meet ++ ([z7005])), rank := z6684.rank, all := z6684.all } : label_Lattice).all) ++ ([z6685])) } : label_Lattice), (IntKind.i64.wrap (z6685 + (1:Int)))))))
noncomputable def label_New_j6 (z6684 : label_Lattice) (z6685 : Int) (s : ((List Int) × (List Int))) : Option ((label_Lattice × Int) ⊕ ((label_Lattice) ⊕ (Option label_Lattice × Int))) :=
  match s with | (z7002, z7005) => (((gd (room z6684.join ([z7002])) (gd (room z6684.meet ([z7005])) (some ())))).bind (label_New_j8 z6684 z7002 z7005 z6685))
noncomputable def label_New_l5 (a0 : (List Int)) (s : (label_Lattice × Int)) : Option ((label_Lattice × Int) ⊕ ((label_Lattice) ⊕ (Option label_Lattice × Int))) :=
  match s with | (z6684, z6685) => (bif (decide (z6685 < ((a0).length : Int))) then (joinO (loopO (label_New_l7 a0 z6684 z6685) ([], [], (0:Int))) (label_New_j6 z6684 z6685)) else (inrO (some (Sum.inl z6684))))
noncomputable def label_New_l12 (z8272 : Int) (z7144 : label_Lattice) (z8642 : Int) (s : (Int × (List Int))) : Option ((Int × (List Int)) ⊕ ((Int × (List Int)) ⊕ ((List Int)))) :=
  match s with | (z8765, z8766) => (bif (decide (z8765 > z8272)) then ((geto z8766 z8765).bind fun x8776 => ((geto z8766 (IntKind.i64.wrap (z8765 - (1:Int)))).bind fun x8781 => (((geto z7144.down x8776).bind fun x8786 => ((geto z7144.down x8781).bind fun x8791 => ((math_bits_OnesCount64 x8786).bind fun t8796 => ((math_bits_OnesCount64 x8791).bind fun t8801 => ((cmp_Compare_int t8796 t8801).bind fun t8806 => (some t8806)))))).bind fun z8811 => (bif (decide (z8811 < (0:Int))) then ((geto (z8766.set z8765.toNat x8781) (IntKind.i64.wrap (z8765 - (1:Int)))).bind fun x8821 => (some (Sum.inl ((IntKind.i64.wrap (z8765 - (1:Int))), ((z8766.set z8765.toNat x8781).set (IntKind.i64.wrap (z8765 - (1:Int))).toNat x8776))))) else (inrO (some (Sum.inl ((IntKind.i64.wrap (z8642 + (1:Int))), z8766)))))))) else (inrO (some (Sum.inl ((IntKind.i64.wrap (z8642 + (1:Int))), z8766)))))
noncomputable def label_New_l11 (z8273 : Int) (z8272 : Int) (z7144 : label_Lattice) (s : (Int × (List Int))) : Option ((Int × (List Int)) ⊕ ((List Int))) :=
  match s with | (z8642, z8643) => (bif (decide (z8642 < z8273)) then (loopO (label_New_l12 z8272 z7144 z8642) (z8642, z8643)) else (inrO (some z8643)))
noncomputable def label_New_l10 (z7144 : label_Lattice) (s : (Int × Int × (List Int))) : Option ((Int × Int × (List Int)) ⊕ ((List Int) × Int)) :=
  match s with | (z8272, z8273, z8274) => (bif (decide (z8273 ≤ ((z7144.all).length : Int))) then ((loopO (label_New_l11 z8273 z8272 z7144) ((IntKind.i64.wrap (z8272 + (1:Int))), z8274)).bind fun z8830 => (some (Sum.inl (z8273, (IntKind.i64.wrap (z8273 + (20:Int))), z8830)))) else (inrO (some (z8274, z8272))))
noncomputable def label_New_l14 (z8836 : Int) (z7144 : label_Lattice) (z9200 : Int) (s : (Int × (List Int))) : Option ((Int × (List Int)) ⊕ ((Int × (List Int)) ⊕ ((List Int)))) :=
  match s with | (z9323, z9324) => (bif (decide (z9323 > z8836)) then ((geto z9324 z9323).bind fun x9334 => ((geto z9324 (IntKind.i64.wrap (z9323 - (1:Int)))).bind fun x9339 => (((geto z7144.down x9334).bind fun x9344 => ((geto z7144.down x9339).bind fun x9349 => ((math_bits_OnesCount64 x9344).bind fun t9354 => ((math_bits_OnesCount64 x9349).bind fun t9359 => ((cmp_Compare_int t9354 t9359).bind fun t9364 => (some t9364)))))).bind fun z9369 => (bif (decide (z9369 < (0:Int))) then ((geto (z9324.set z9323.toNat x9339) (IntKind.i64.wrap (z9323 - (1:Int)))).bind fun x9379 => (some (Sum.inl ((IntKind.i64.wrap (z9323 - (1:Int))), ((z9324.set z9323.toNat x9339).set (IntKind.i64.wrap (z9323 - (1:Int))).toNat x9334))))) else (inrO (some (Sum.inl ((IntKind.i64.wrap (z9200 + (1:Int))), z9324)))))))) else (inrO (some (Sum.inl ((IntKind.i64.wrap (z9200 + (1:Int))), z9324)))))
noncomputable def label_New_l13 (z7144 : label_Lattice) (z8836 : Int) (s : (Int × (List Int))) : Option ((Int × (List Int)) ⊕ ((List Int))) :=
  match s with | (z9200, z9201) => (bif (decide (z9200 < ((z7144.all).length : Int))) then (loopO (label_New_l14 z8836 z7144 z9200) (z9200, z9201)) else (inrO (some z9201)))
noncomputable def label_New_l17 (z9428 : Int) (z7144 : label_Lattice) (_s : Unit) : Option (Unit ⊕ Unit) :=
  (bif (decide ((IntKind.i64.wrap ((2:Int) * z9428)) ≤ ((z7144.all).length : Int))) then none else (inrO (some ())))
noncomputable def label_New_j16 (z9428 : Int) (z7144 : label_Lattice) (_s : Unit) : Option ((Int) ⊕ ((List Int))) :=
  (bif (decide ((IntKind.i64.wrap ((0:Int) + z9428)) < ((z7144.all).length : Int))) then none else (some (Sum.inl (IntKind.i64.wrap (z9428 * (2:Int))))))
noncomputable def label_New_l15 (z7144 : label_Lattice) (z9388 : (List Int)) (z9428 : (Int)) : Option ((Int) ⊕ ((List Int))) :=
  (bif (decide (z9428 < ((z7144.all).length : Int))) then (((loopO (label_New_l17 z9428 z7144) ())).bind (label_New_j16 z9428 z7144)) else (inrO (some z9388)))
noncomputable def label_New_j9 (z7144 : label_Lattice) (s : ((List Int) × Int)) : Option ((List Int)) :=
  match s with | (z8835, z8836) => ((loopO (label_New_l13 z7144 z8836) ((IntKind.i64.wrap (z8836 + (1:Int))), z8835)).bind fun z9388 => (loopO (label_New_l15 z7144 z9388) (20:Int)))
noncomputable def label_New_l18 (z9459 : (List Int)) (z7144 : label_Lattice) (s : (Int × (List Int))) : Option ((Int × (List Int)) ⊕ (Option label_Lattice × Int)) :=
  match s with | (z9496, z9497) => (bif (decide (z9496 < ((z9459).length : Int))) then ((geto z9459 z9496).bind fun x9507 => ((geto z9497 x9507).bind fun x9512 => (some (Sum.inl ((IntKind.i64.wrap (z9496 + (1:Int))), (z9497.set x9507.toNat z9496)))))) else (inrO (some ((some ({ up := z7144.up, down := z7144.down, join := z7144.join, meet := z7144.meet, rank := z9497, all := z9459 } : label_Lattice)), (0:Int)))))
noncomputable def label_New_j4 (z7144 : (label_Lattice)) : Option (Option label_Lattice × Int) :=
  (((((loopO (label_New_l10 z7144) ((0:Int), (20:Int), z7144.all))).bind (label_New_j9 z7144)).bind fun z9454 => (some z9454)).bind fun z9459 => (loopO (label_New_l18 z9459 z7144) ((0:Int), z7144.rank)))
noncomputable def label_New_j1 (a0 : (List Int)) (z5800 : (label_Lattice)) : Option (Option label_Lattice × Int) :=
  (joinO (loopO (label_New_l5 a0) (z5800, (0:Int))) (label_New_j4))
noncomputable def label_New_j0 (a0 : (List Int)) (z5494 : (label_Lattice)) : Option (Option label_Lattice × Int) :=
  ((label_Lattice_orders (some z5494)).bind fun t5500 => (bif (!t5500) then (some (none, (15:Int))) else (((loopO (label_New_l2 a0) (z5494, (0:Int)))).bind (label_New_j1 a0))))
noncomputable def label_New (a0 : (List Int)) : Option (Option label_Lattice × Int) :=
  (bif (decide (((a0).length : Int) < (1:Int))) then (some (none, (1:Int))) else (bif (decide (((a0).length : Int) > (16:Int))) then (some (none, (1:Int))) else ((((slices_Clone_uint64_uint64 a0).bind fun t4814 => (gd (mkOK ((a0).length : Int) ((a0).length : Int)) (gd (mkOK ((a0).length : Int) ((a0).length : Int)) (some ({ up := t4814, down := (List.replicate (Int.toNat ((a0).length : Int)) (0:Int)), join := [], meet := [], rank := (List.replicate (Int.toNat ((a0).length : Int)) (0:Int)), all := [] } : label_Lattice)))))).bind (label_New_j0 a0))))

noncomputable def config_New_j2 (a0 : api_Config) (z152 : (Bool)) : Option (Option config_Plan × Int) :=
  (bif z152 then (some (none, (1:Int))) else (bif (decide (a0.Beat < (1:Int))) then (some (none, (1:Int))) else (bif (decide (a0.Elect ≤ a0.Beat)) then (some (none, (1:Int))) else (bif (decide (a0.Elect > (1000:Int))) then (some (none, (1:Int))) else ((label_New a0.Up).bind fun t166 => (bif (t166.2 != (0:Int)) then (some (none, t166.2)) else (some ((some ({ C := a0, L := t166.1 } : config_Plan)), (0:Int)))))))))
noncomputable def config_New_j1 (a0 : api_Config) (z141 : (Bool)) : Option (Option config_Plan × Int) :=
  (bif z141 then (some (none, (1:Int))) else (((bif (decide (a0.Quota < (1:Int))) then (some true) else (bif (decide (a0.Quota > (268435456:Int))) then (some (decide (a0.Quota > (268435456:Int)))) else (bif (decide (a0.Wide < (0:Int))) then (some true) else (some (decide (a0.Wide > (256:Int)))))))).bind (config_New_j2 a0)))
noncomputable def config_New_j0 (a0 : api_Config) (z130 : (Bool)) : Option (Option config_Plan × Int) :=
  (bif z130 then (some (none, (1:Int))) else (((bif (decide (a0.Frame < (64:Int))) then (some true) else (bif (decide (a0.Frame > (4096:Int))) then (some (decide (a0.Frame > (4096:Int)))) else (bif (decide (a0.Depth < (1:Int))) then (some true) else (some (decide (a0.Depth > (65536:Int)))))))).bind (config_New_j1 a0)))
noncomputable def config_New (a0 : api_Config) : Option (Option config_Plan × Int) :=
  (((bif (decide (a0.Nodes < (1:Int))) then (some true) else (bif (decide (a0.Nodes > (7:Int))) then (some (decide (a0.Nodes > (7:Int)))) else (bif (decide (((a0.Cuts).length : Int) ≥ (8:Int))) then (some (decide (((a0.Cuts).length : Int) ≥ (8:Int)))) else ((number_Rising a0.Cuts).bind fun t125 => (some (!t125))))))).bind (config_New_j0 a0))

noncomputable def label_Lattice_Len (a0 : (Option label_Lattice)) : Option (Int) :=
  (match a0 with | none => (some (0:Int)) | some o0 => (some ((o0.up).length : Int)))

noncomputable def config_Plan_L0 (a0 : (Option config_Plan)) : Option (Int) :=
  (match a0 with | none => (some (0:Int)) | some o0 => ((label_Lattice_Len o0.L).bind fun t133 => (some t133)))

noncomputable def config_Plan_Shards (a0 : (Option config_Plan)) : Option (Int) :=
  (match a0 with | none => (some (0:Int)) | some o0 => (some (IntKind.i64.wrap (((o0.C.Cuts).length : Int) + (1:Int)))))

noncomputable def config_Plan_Lanes (a0 : (Option config_Plan)) : Option (Int) :=
  ((config_Plan_L0 a0).bind fun t119 => ((config_Plan_Shards a0).bind fun t124 => (some (IntKind.i64.wrap ((IntKind.i64.wrap (t119 * t124)) + (1:Int))))))

noncomputable def config_Plan_Lane (a0 : (Option config_Plan)) (a1 : Int) (a2 : Int) : Option (Int) :=
  (bif (decide (a1 < (0:Int))) then (some ((-1):Int)) else ((config_Plan_L0 a0).bind fun t135 => (bif (decide (a1 ≥ t135)) then (some ((-1):Int)) else (bif (decide (a2 < (0:Int))) then (some ((-1):Int)) else ((config_Plan_Shards a0).bind fun t142 => (bif (decide (a2 ≥ t142)) then (some ((-1):Int)) else ((config_Plan_Shards a0).bind fun t148 => (some (IntKind.i64.wrap ((IntKind.i64.wrap (a1 * t148)) + a2))))))))))

noncomputable def config_Plan_Rules (a0 : (Option config_Plan)) : Option (Int) :=
  ((config_Plan_Lanes a0).bind fun t126 => (some (IntKind.i64.wrap (t126 - (1:Int)))))

noncomputable def label_Lattice_Bottom (a0 : (Option label_Lattice)) : Option (Int) :=
  (match a0 with | none => (some ((-1):Int)) | some o0 => ((geto o0.all (0:Int)).bind fun x191 => (some x191)))

noncomputable def config_Plan_Label (a0 : (Option config_Plan)) (a1 : Int) : Option (Int) :=
  (match a0 with | none => (some ((-1):Int)) | some o0 => (bif (decide (a1 < (0:Int))) then (some ((-1):Int)) else ((config_Plan_Lanes (some o0)).bind fun t180 => (bif (decide (a1 ≥ t180)) then (some ((-1):Int)) else ((config_Plan_Rules (some o0)).bind fun t186 => (bif (a1 == t186) then ((label_Lattice_Bottom o0.L).bind fun t202 => (some t202)) else ((config_Plan_Shards (some o0)).bind fun t207 => (gd (!(t207 == (0:Int))) (some (IntKind.i64.wrap (Int.tdiv a1 t207)))))))))))

noncomputable def law04_awake : Option (Bool) :=
  ((ref04_Small (0:Int)).bind fun t130 => ((config_New ({ Up := t130.Up, Nodes := t130.Nodes, Cuts := [(0:Nat)], Frame := t130.Frame, Depth := t130.Depth, Quota := t130.Quota, Wide := t130.Wide, Beat := t130.Beat, Elect := t130.Elect } : api_Config)).bind fun t161 => (bif (t161.2 == (0:Int)) then ((config_Plan_Lanes t161.1).bind fun t169 => (bif (t169 == (5:Int)) then ((config_Plan_Lane t161.1 (1:Int) (1:Int)).bind fun t175 => (bif (t175 == (3:Int)) then ((config_Plan_Rules t161.1).bind fun t181 => (bif (t181 == (4:Int)) then ((config_Plan_Label t161.1 (2:Int)).bind fun t187 => (some (t187 == (1:Int)))) else (some false))) else (some false))) else (some false))) else (some false))))

noncomputable def math_Signbit (a0 : Nat) : Option (Bool) :=
  (some (decide ((IntKind.i64.wrap (Int.ofNat a0)) < (0:Int))))

noncomputable def ref01_Ahead_j0 (a0 : Nat) (a1 : Nat) (_s : Unit) : Option (Bool) :=
  (some (fLt a0 a1))
noncomputable def ref01_Ahead (a0 : Nat) (a1 : Nat) : Option (Bool) :=
  (bif (fNe a0 a0) then (some false) else (bif (fNe a1 a1) then (some true) else (joinO (bif (fEq a0 (0:Nat)) then (bif (fEq a1 (0:Nat)) then ((math_Signbit a0).bind fun t110 => (bif t110 then ((math_Signbit a1).bind fun t116 => (inrO (some (!t116)))) else (inrO (some false)))) else (some (Sum.inl ()))) else (some (Sum.inl ()))) (ref01_Ahead_j0 a0 a1))))

noncomputable def ref01_Rising_l0 (a0 : (List Nat)) (z182 : (Int)) : Option ((Int) ⊕ (Bool)) :=
  (bif (decide (z182 < ((a0).length : Int))) then ((geto a0 (IntKind.i64.wrap (z182 - (1:Int)))).bind fun x192 => ((geto a0 z182).bind fun x197 => ((ref01_Ahead x192 x197).bind fun t202 => (bif (!t202) then (inrO (some false)) else (some (Sum.inl (IntKind.i64.wrap (z182 + (1:Int))))))))) else (inrO (some true)))
noncomputable def ref01_Rising (a0 : (List Nat)) : Option (Bool) :=
  (loopO (ref01_Rising_l0 a0) (1:Int))

noncomputable def ref03_Leq (a0 : (List Int)) (a1 : Int) (a2 : Int) : Option (Bool) :=
  (bif (decide (a1 ≥ (0:Int))) then (bif (decide (a2 ≥ (0:Int))) then (bif (decide (a1 < ((a0).length : Int))) then (bif (decide (a2 < ((a0).length : Int))) then ((geto a0 a1).bind fun x140 => (gd (decide ((0:Int) ≤ a2)) (some ((bAnd .u64 (iShr .u64 x140 a2) (1:Int)) == (1:Int))))) else (some false)) else (some false)) else (some false)) else (some false))

noncomputable def ref03_Join_l2 (a0 : (List Int)) (a1 : Int) (a2 : Int) (z1438 : Int) (s : (Bool × Int)) : Option ((Bool × Int) ⊕ ((Int) ⊕ (Int))) :=
  match s with | (z1507, z1508) => (bif (decide (z1508 < ((a0).length : Int))) then (bif z1507 then ((ref03_Leq a0 a1 z1508).bind fun t1519 => (bif t1519 then ((ref03_Leq a0 a2 z1508).bind fun t1525 => (bif t1525 then ((ref03_Leq a0 z1438 z1508).bind fun t1531 => (bif (!t1531) then (some (Sum.inl (false, (IntKind.i64.wrap (z1508 + (1:Int)))))) else (some (Sum.inl (z1507, (IntKind.i64.wrap (z1508 + (1:Int)))))))) else (some (Sum.inl (z1507, (IntKind.i64.wrap (z1508 + (1:Int)))))))) else (some (Sum.inl (z1507, (IntKind.i64.wrap (z1508 + (1:Int)))))))) else (inrO (some (Sum.inl (IntKind.i64.wrap (z1438 + (1:Int))))))) else (inrO (bif z1507 then (inrO (some z1438)) else (some (Sum.inl (IntKind.i64.wrap (z1438 + (1:Int))))))))
noncomputable def ref03_Join_j1 (a0 : (List Int)) (a1 : Int) (a2 : Int) (z1438 : Int) (z1459 : (Bool)) : Option ((Int) ⊕ (Int)) :=
  (loopO (ref03_Join_l2 a0 a1 a2 z1438) (z1459, (0:Int)))
noncomputable def ref03_Join_l0 (a0 : (List Int)) (a1 : Int) (a2 : Int) (z1438 : (Int)) : Option ((Int) ⊕ (Int)) :=
  (bif (decide (z1438 < ((a0).length : Int))) then ((((ref03_Leq a0 a1 z1438).bind fun t1448 => (bif t1448 then ((ref03_Leq a0 a2 z1438).bind fun t1454 => (some t1454)) else (some false)))).bind (ref03_Join_j1 a0 a1 a2 z1438)) else (inrO (some ((-1):Int))))
noncomputable def ref03_Join (a0 : (List Int)) (a1 : Int) (a2 : Int) : Option (Int) :=
  (loopO (ref03_Join_l0 a0 a1 a2) (0:Int))

noncomputable def ref03_Meet_l2 (a0 : (List Int)) (a1 : Int) (a2 : Int) (z1444 : Int) (s : (Bool × Int)) : Option ((Bool × Int) ⊕ ((Int) ⊕ (Int))) :=
  match s with | (z1513, z1514) => (bif (decide (z1514 < ((a0).length : Int))) then (bif z1513 then ((ref03_Leq a0 z1514 a1).bind fun t1525 => (bif t1525 then ((ref03_Leq a0 z1514 a2).bind fun t1531 => (bif t1531 then ((ref03_Leq a0 z1514 z1444).bind fun t1537 => (bif (!t1537) then (some (Sum.inl (false, (IntKind.i64.wrap (z1514 + (1:Int)))))) else (some (Sum.inl (z1513, (IntKind.i64.wrap (z1514 + (1:Int)))))))) else (some (Sum.inl (z1513, (IntKind.i64.wrap (z1514 + (1:Int)))))))) else (some (Sum.inl (z1513, (IntKind.i64.wrap (z1514 + (1:Int)))))))) else (inrO (some (Sum.inl (IntKind.i64.wrap (z1444 + (1:Int))))))) else (inrO (bif z1513 then (inrO (some z1444)) else (some (Sum.inl (IntKind.i64.wrap (z1444 + (1:Int))))))))
noncomputable def ref03_Meet_j1 (a0 : (List Int)) (a1 : Int) (a2 : Int) (z1444 : Int) (z1465 : (Bool)) : Option ((Int) ⊕ (Int)) :=
  (loopO (ref03_Meet_l2 a0 a1 a2 z1444) (z1465, (0:Int)))
noncomputable def ref03_Meet_l0 (a0 : (List Int)) (a1 : Int) (a2 : Int) (z1444 : (Int)) : Option ((Int) ⊕ (Int)) :=
  (bif (decide (z1444 < ((a0).length : Int))) then ((((ref03_Leq a0 z1444 a1).bind fun t1454 => (bif t1454 then ((ref03_Leq a0 z1444 a2).bind fun t1460 => (some t1460)) else (some false)))).bind (ref03_Meet_j1 a0 a1 a2 z1444)) else (inrO (some ((-1):Int))))
noncomputable def ref03_Meet (a0 : (List Int)) (a1 : Int) (a2 : Int) : Option (Int) :=
  (loopO (ref03_Meet_l0 a0 a1 a2) (0:Int))

noncomputable def ref03_Check_l4 (a0 : (List Int)) (z1693 : Int) (z1888 : Int) (z1955 : (Int)) : Option ((Int) ⊕ ((Int) ⊕ ((Int) ⊕ (Unit ⊕ (Int))))) :=
  (bif (decide (z1955 < ((a0).length : Int))) then ((ref03_Leq a0 z1693 z1888).bind fun t1965 => (bif t1965 then ((ref03_Leq a0 z1888 z1955).bind fun t1971 => (bif t1971 then ((ref03_Leq a0 z1693 z1955).bind fun t1977 => (bif (!t1977) then (inrO (inrO (inrO (inrO (some (15:Int)))))) else (some (Sum.inl (IntKind.i64.wrap (z1955 + (1:Int))))))) else (some (Sum.inl (IntKind.i64.wrap (z1955 + (1:Int))))))) else (some (Sum.inl (IntKind.i64.wrap (z1955 + (1:Int))))))) else (inrO (some (Sum.inl (IntKind.i64.wrap (z1888 + (1:Int)))))))
noncomputable def ref03_Check_j3 (a0 : (List Int)) (z1693 : Int) (z1888 : Int) (_s : Unit) : Option ((Int) ⊕ ((Int) ⊕ (Unit ⊕ (Int)))) :=
  (loopO (ref03_Check_l4 a0 z1693 z1888) (0:Int))
noncomputable def ref03_Check_l2 (a0 : (List Int)) (z1693 : Int) (z1888 : (Int)) : Option ((Int) ⊕ ((Int) ⊕ (Unit ⊕ (Int)))) :=
  (bif (decide (z1888 < ((a0).length : Int))) then (joinO (bif (z1693 != z1888) then ((ref03_Leq a0 z1693 z1888).bind fun t1899 => (bif t1899 then ((ref03_Leq a0 z1888 z1693).bind fun t1905 => (bif t1905 then (inrO (inrO (inrO (inrO (some (15:Int)))))) else (some (Sum.inl ())))) else (some (Sum.inl ())))) else (some (Sum.inl ()))) (ref03_Check_j3 a0 z1693 z1888)) else (inrO (some (Sum.inl (IntKind.i64.wrap (z1693 + (1:Int)))))))
noncomputable def ref03_Check_l1 (a0 : (List Int)) (z1693 : (Int)) : Option ((Int) ⊕ (Unit ⊕ (Int))) :=
  (bif (decide (z1693 < ((a0).length : Int))) then ((geto a0 z1693).bind fun x1703 => (gd (decide ((0:Int) ≤ ((a0).length : Int))) (bif ((iShr .u64 x1703 ((a0).length : Int)) != (0:Int)) then (inrO (inrO (some (15:Int)))) else ((ref03_Leq a0 z1693 z1693).bind fun t1710 => (bif (!t1710) then (inrO (inrO (some (15:Int)))) else (loopO (ref03_Check_l2 a0 z1693) (0:Int))))))) else (inrO (some (Sum.inl ()))))
noncomputable def ref03_Check_l6 (a0 : (List Int)) (z2088 : Int) (z2125 : (Int)) : Option ((Int) ⊕ ((Int) ⊕ (Int))) :=
  (bif (decide (z2125 < ((a0).length : Int))) then ((ref03_Join a0 z2088 z2125).bind fun t2135 => (bif (decide (t2135 < (0:Int))) then (inrO (inrO (some (15:Int)))) else ((ref03_Meet a0 z2088 z2125).bind fun t2141 => (bif (decide (t2141 < (0:Int))) then (inrO (inrO (some (15:Int)))) else (some (Sum.inl (IntKind.i64.wrap (z2125 + (1:Int))))))))) else (inrO (some (Sum.inl (IntKind.i64.wrap (z2088 + (1:Int)))))))
noncomputable def ref03_Check_l5 (a0 : (List Int)) (z2088 : (Int)) : Option ((Int) ⊕ (Int)) :=
  (bif (decide (z2088 < ((a0).length : Int))) then (loopO (ref03_Check_l6 a0 z2088) (0:Int)) else (inrO (some (0:Int))))
noncomputable def ref03_Check_j0 (a0 : (List Int)) (_s : Unit) : Option (Int) :=
  (loopO (ref03_Check_l5 a0) (0:Int))
noncomputable def ref03_Check (a0 : (List Int)) : Option (Int) :=
  (bif (decide (((a0).length : Int) < (1:Int))) then (some (1:Int)) else (bif (decide (((a0).length : Int) > (16:Int))) then (some (1:Int)) else (joinO (loopO (ref03_Check_l1 a0) (0:Int)) (ref03_Check_j0 a0))))

noncomputable def ref04_Check_j1 (a0 : api_Config) (z150 : (Bool)) : Option (Int) :=
  (bif (!z150) then (some (1:Int)) else ((ref03_Check a0.Up).bind fun t157 => (some t157)))
noncomputable def ref04_Check_j0 (a0 : api_Config) (z137 : (Bool)) : Option (Int) :=
  (((bif z137 then (bif (decide (a0.Quota ≥ (1:Int))) then (bif (decide (a0.Quota ≤ (268435456:Int))) then (bif (decide (a0.Wide ≥ (0:Int))) then (bif (decide (a0.Wide ≤ (256:Int))) then (bif (decide (a0.Beat ≥ (1:Int))) then (bif (decide (a0.Elect > a0.Beat)) then (some (decide (a0.Elect ≤ (1000:Int)))) else (some false)) else (some false)) else (some false)) else (some false)) else (some false)) else (some false)) else (some false))).bind (ref04_Check_j1 a0))
noncomputable def ref04_Check (a0 : api_Config) : Option (Int) :=
  (((bif (decide (a0.Nodes ≥ (1:Int))) then (bif (decide (a0.Nodes ≤ (7:Int))) then (bif (decide (((a0.Cuts).length : Int) < (8:Int))) then ((ref01_Rising a0.Cuts).bind fun t128 => (bif t128 then (bif (decide (a0.Frame ≥ (64:Int))) then (bif (decide (a0.Frame ≤ (4096:Int))) then (bif (decide (a0.Depth ≥ (1:Int))) then (some (decide (a0.Depth ≤ (65536:Int)))) else (some false)) else (some false)) else (some false)) else (some false))) else (some false)) else (some false)) else (some false))).bind (ref04_Check_j0 a0))

noncomputable def law04_ConfigNear_j0 (z126 : (api_Config)) : Option (Bool) :=
  ((config_New z126).bind fun t140 => (law04_awake.bind fun t147 => (bif t147 then ((ref04_Check z126).bind fun t153 => (bif (t140.2 == t153) then (some ((!(t140.1.isNone)) == (t140.2 == (0:Int)))) else (some false))) else (some false))))
noncomputable def law04_ConfigNear (a0 : Int) (a1 : Int) (a2 : Int) : Option (Bool) :=
  ((ref04_Small a0).bind fun t80 => (((bif ((Int.tmod a1 (8:Int)) == (0:Int)) then (some ({ Up := t80.Up, Nodes := a2, Cuts := t80.Cuts, Frame := t80.Frame, Depth := t80.Depth, Quota := t80.Quota, Wide := t80.Wide, Beat := t80.Beat, Elect := t80.Elect } : api_Config)) else (bif ((Int.tmod a1 (8:Int)) == (1:Int)) then (some ({ Up := t80.Up, Nodes := t80.Nodes, Cuts := t80.Cuts, Frame := a2, Depth := t80.Depth, Quota := t80.Quota, Wide := t80.Wide, Beat := t80.Beat, Elect := t80.Elect } : api_Config)) else (bif ((Int.tmod a1 (8:Int)) == (2:Int)) then (some ({ Up := t80.Up, Nodes := t80.Nodes, Cuts := t80.Cuts, Frame := t80.Frame, Depth := a2, Quota := t80.Quota, Wide := t80.Wide, Beat := t80.Beat, Elect := t80.Elect } : api_Config)) else (bif ((Int.tmod a1 (8:Int)) == (3:Int)) then (some ({ Up := t80.Up, Nodes := t80.Nodes, Cuts := t80.Cuts, Frame := t80.Frame, Depth := t80.Depth, Quota := a2, Wide := t80.Wide, Beat := t80.Beat, Elect := t80.Elect } : api_Config)) else (bif ((Int.tmod a1 (8:Int)) == (4:Int)) then (some ({ Up := t80.Up, Nodes := t80.Nodes, Cuts := t80.Cuts, Frame := t80.Frame, Depth := t80.Depth, Quota := t80.Quota, Wide := a2, Beat := t80.Beat, Elect := t80.Elect } : api_Config)) else (bif ((Int.tmod a1 (8:Int)) == (5:Int)) then (some ({ Up := t80.Up, Nodes := t80.Nodes, Cuts := t80.Cuts, Frame := t80.Frame, Depth := t80.Depth, Quota := t80.Quota, Wide := t80.Wide, Beat := a2, Elect := t80.Elect } : api_Config)) else (bif ((Int.tmod a1 (8:Int)) == (6:Int)) then (some ({ Up := t80.Up, Nodes := t80.Nodes, Cuts := t80.Cuts, Frame := t80.Frame, Depth := t80.Depth, Quota := t80.Quota, Wide := t80.Wide, Beat := t80.Beat, Elect := a2 } : api_Config)) else (some ({ Up := t80.Up, Nodes := t80.Nodes, Cuts := [(0:Nat), (fOfInt a2)], Frame := t80.Frame, Depth := t80.Depth, Quota := t80.Quota, Wide := t80.Wide, Beat := t80.Beat, Elect := t80.Elect } : api_Config)))))))))).bind (law04_ConfigNear_j0)))

noncomputable def config_Most (a0 : Int) (a1 : Int) : Option (Bool) :=
  ((math_bits_OnesCount64 (bAnd .u64 a0 a1)).bind fun t51 => ((math_bits_OnesCount64 a1).bind fun t56 => (some (decide ((IntKind.i64.wrap ((2:Int) * t51)) > t56)))))

noncomputable def law04_ConfigMost_l1 (a1 : Int) (a0 : Int) (s : (Int × Int × Int)) : Option ((Int × Int × Int) ⊕ (Int × Int)) :=
  match s with | (z57, z58, z59) => (bif (decide (z59 < (64:Int))) then (gd (decide ((0:Int) ≤ z59)) (bif ((bAnd .u64 (iShr .u64 a1 z59) (1:Int)) == (1:Int)) then (gd (decide ((0:Int) ≤ z59)) (bif ((bAnd .u64 (iShr .u64 a0 z59) (1:Int)) == (1:Int)) then (some (Sum.inl ((IntKind.i64.wrap (z57 + (1:Int))), (IntKind.i64.wrap (z58 + (1:Int))), (IntKind.i64.wrap (z59 + (1:Int)))))) else (some (Sum.inl (z57, (IntKind.i64.wrap (z58 + (1:Int))), (IntKind.i64.wrap (z59 + (1:Int)))))))) else (some (Sum.inl (z57, z58, (IntKind.i64.wrap (z59 + (1:Int)))))))) else (inrO (some (z57, z58))))
noncomputable def law04_ConfigMost_j0 (a0 : Int) (a1 : Int) (s : (Int × Int)) : Option (Bool) :=
  match s with | (z73, z74) => (law04_awake.bind fun t80 => (bif t80 then ((config_Most a0 a1).bind fun t86 => (some (t86 == (decide (z73 > (IntKind.i64.wrap (z74 - z73))))))) else (some false)))
noncomputable def law04_ConfigMost (a0 : Int) (a1 : Int) : Option (Bool) :=
  (((loopO (law04_ConfigMost_l1 a1 a0) ((0:Int), (0:Int), (0:Int)))).bind (law04_ConfigMost_j0 a0 a1))

noncomputable def law04_ConfigChecks (a0 : api_Config) : Option (Bool) :=
  (law04_awake.bind fun t51 => (bif (!t51) then (law04_awake.bind fun t57 => (some t57)) else (bif (decide (((a0.Up).length : Int) > (20:Int))) then (law04_awake.bind fun t63 => (some t63)) else (bif (decide (((a0.Cuts).length : Int) > (100:Int))) then (law04_awake.bind fun t69 => (some t69)) else ((config_New a0).bind fun t74 => ((ref04_Check a0).bind fun t81 => (bif (t74.2 == t81) then (some ((!(t74.1.isNone)) == (t81 == (0:Int)))) else (some false))))))))

noncomputable def label_Lattice_Is (a0 : (Option label_Lattice)) (a1 : Int) : Option (Bool) :=
  (bif (decide (a1 ≥ (0:Int))) then ((label_Lattice_Len a0).bind fun t76 => (some (decide (a1 < t76)))) else (some false))

noncomputable def config_Plan_Rule (a0 : (Option config_Plan)) (a1 : api_Rule) : Option (Bool) :=
  (match a0 with | none => (some false) | some o0 => ((label_Lattice_Is o0.L a1.From).bind fun t121 => (bif t121 then ((label_Lattice_Is o0.L a1.To).bind fun t127 => (bif t127 then (bif (a1.From != a1.To) then ((number_Less a1.Hi a1.Lo).bind fun t134 => (bif (!t134) then (bif (decide (a1.Quota ≥ (0:Int))) then (some (decide (a1.Quota ≤ (65536:Int)))) else (some false)) else (some false))) else (some false)) else (some false))) else (some false))))

noncomputable def law04_ConfigRules_j0 (t95 : (Option config_Plan × Int)) (a1 : api_Rule) (z114 : (Bool)) : Option (Bool) :=
  (law04_awake.bind fun t120 => (bif t120 then ((config_Plan_Rule t95.1 a1).bind fun t126 => (some (t126 == z114))) else (some false)))
noncomputable def law04_ConfigRules (a0 : Int) (a1 : api_Rule) : Option (Bool) :=
  ((ref04_Small a0).bind fun t71 => ((config_New t71).bind fun t95 => (((bif (decide (a1.From ≥ (0:Int))) then (bif (decide (a1.From < ((t71.Up).length : Int))) then (bif (decide (a1.To ≥ (0:Int))) then (bif (decide (a1.To < ((t71.Up).length : Int))) then (bif (a1.From != a1.To) then ((ref01_Ahead a1.Hi a1.Lo).bind fun t107 => (bif (!t107) then (bif (decide (a1.Quota ≥ (0:Int))) then (some (decide (a1.Quota ≤ (65536:Int)))) else (some false)) else (some false))) else (some false)) else (some false)) else (some false)) else (some false)) else (some false))).bind (law04_ConfigRules_j0 t95 a1))))

noncomputable def config_Plan_Part (a0 : (Option config_Plan)) (a1 : Int) : Option (Int) :=
  (match a0 with | none => (some ((-1):Int)) | some o0 => (bif (decide (a1 < (0:Int))) then (some ((-1):Int)) else ((config_Plan_Rules (some o0)).bind fun t89 => (bif (decide (a1 ≥ t89)) then (some ((-1):Int)) else ((config_Plan_Shards (some o0)).bind fun t95 => (gd (!(t95 == (0:Int))) (some (Int.tmod a1 t95))))))))

noncomputable def ref03_Order_l3 (a0 : (List Int)) (z1485 : Int) (s : (Int × Int)) : Option ((Int × Int) ⊕ (Int)) :=
  match s with | (z1511, z1512) => (bif (decide (z1512 < ((a0).length : Int))) then ((ref03_Leq a0 z1512 z1485).bind fun t1522 => (bif t1522 then (some (Sum.inl ((IntKind.i64.wrap (z1511 + (1:Int))), (IntKind.i64.wrap (z1512 + (1:Int)))))) else (some (Sum.inl (z1511, (IntKind.i64.wrap (z1512 + (1:Int)))))))) else (inrO (some z1511)))
noncomputable def ref03_Order_j2 (z1367 : Int) (z1482 : (List Int)) (z1485 : Int) (z1528 : (Int)) : Option (((List Int) × Int) ⊕ (((List Int) × Int) ⊕ ((List Int)))) :=
  (bif (z1528 == z1367) then (gd (room z1482 ([z1485])) (some (Sum.inl ((z1482 ++ ([z1485])), (IntKind.i64.wrap (z1485 + (1:Int))))))) else (some (Sum.inl (z1482, (IntKind.i64.wrap (z1485 + (1:Int)))))))
noncomputable def ref03_Order_l1 (a0 : (List Int)) (z1367 : Int) (s : ((List Int) × Int)) : Option (((List Int) × Int) ⊕ (((List Int) × Int) ⊕ ((List Int)))) :=
  match s with | (z1482, z1485) => (bif (decide (z1485 < ((a0).length : Int))) then (((loopO (ref03_Order_l3 a0 z1485) ((0:Int), (0:Int)))).bind (ref03_Order_j2 z1367 z1482 z1485)) else (inrO (some (Sum.inl (z1482, (IntKind.i64.wrap (z1367 + (1:Int))))))))
noncomputable def ref03_Order_l0 (a0 : (List Int)) (s : ((List Int) × Int)) : Option (((List Int) × Int) ⊕ ((List Int))) :=
  match s with | (z1364, z1367) => (bif (decide (z1367 ≤ ((a0).length : Int))) then (loopO (ref03_Order_l1 a0 z1367) (z1364, (0:Int))) else (inrO (some z1364)))
noncomputable def ref03_Order (a0 : (List Int)) : Option ((List Int)) :=
  (loopO (ref03_Order_l0 a0) ([], (0:Int)))

noncomputable def config_Plan_Chief (a0 : (Option config_Plan)) (a1 : Int) : Option (Int) :=
  ((config_Plan_Lane a0 a1 (0:Int)).bind fun t136 => (some t136))

noncomputable def config_Plan_All (a0 : (Option config_Plan)) : Option (Int) :=
  (match a0 with | none => (some (0:Int)) | some o0 => (gd (decide ((0:Int) ≤ o0.C.Nodes)) (some (IntKind.u64.wrap ((iShl .u64 (1:Int) o0.C.Nodes) - (1:Int))))))

noncomputable def config_Plan_Node (a0 : (Option config_Plan)) (a1 : Int) : Option (Bool) :=
  (match a0 with | none => (some false) | some o0 => (bif (decide (a1 ≥ (0:Int))) then (some (decide (a1 < o0.C.Nodes))) else (some false)))

noncomputable def law04_ConfigLanes_l2 (a1 : (List Nat)) (t535 : (Option config_Plan × Int)) (z815 : Int) (t512 : (api_Config)) (z892 : (Int)) : Option ((Int) ⊕ ((Int) ⊕ (Unit ⊕ (Bool)))) :=
  (bif (decide (z892 ≤ (IntKind.i64.wrap (((a1).length : Int) + (1:Int))))) then ((config_Plan_Lane t535.1 z815 z892).bind fun t902 => (bif (decide (z815 < (0:Int))) then (bif (t902 != ((-1):Int)) then (inrO (inrO (inrO (some false)))) else (some (Sum.inl (IntKind.i64.wrap (z892 + (1:Int)))))) else (bif (decide (z815 ≥ ((t512.Up).length : Int))) then (bif (t902 != ((-1):Int)) then (inrO (inrO (inrO (some false)))) else (some (Sum.inl (IntKind.i64.wrap (z892 + (1:Int)))))) else (bif (decide (z892 < (0:Int))) then (bif (t902 != ((-1):Int)) then (inrO (inrO (inrO (some false)))) else (some (Sum.inl (IntKind.i64.wrap (z892 + (1:Int)))))) else (bif (decide (z892 ≥ (IntKind.i64.wrap (((a1).length : Int) + (1:Int))))) then (bif (t902 != ((-1):Int)) then (inrO (inrO (inrO (some false)))) else (some (Sum.inl (IntKind.i64.wrap (z892 + (1:Int)))))) else (bif (t902 != (IntKind.i64.wrap ((IntKind.i64.wrap (z815 * (IntKind.i64.wrap (((a1).length : Int) + (1:Int))))) + z892))) then (inrO (inrO (inrO (some false)))) else ((config_Plan_Label t535.1 t902).bind fun t916 => (bif (t916 != z815) then (inrO (inrO (inrO (some false)))) else ((config_Plan_Part t535.1 t902).bind fun t922 => (bif (t922 != z892) then (inrO (inrO (inrO (some false)))) else ((config_Plan_Chief t535.1 z815).bind fun t928 => (bif (t928 != (IntKind.i64.wrap (z815 * (IntKind.i64.wrap (((a1).length : Int) + (1:Int)))))) then (inrO (inrO (inrO (some false)))) else (some (Sum.inl (IntKind.i64.wrap (z892 + (1:Int))))))))))))))))) else (inrO (some (Sum.inl (IntKind.i64.wrap (z815 + (1:Int)))))))
noncomputable def law04_ConfigLanes_l1 (t512 : (api_Config)) (a1 : (List Nat)) (t535 : (Option config_Plan × Int)) (z815 : (Int)) : Option ((Int) ⊕ (Unit ⊕ (Bool))) :=
  (bif (decide (z815 ≤ ((t512.Up).length : Int))) then (loopO (law04_ConfigLanes_l2 a1 t535 z815 t512) ((-1):Int)) else (inrO (some (Sum.inl ()))))
noncomputable def law04_ConfigLanes_j0 (t535 : (Option config_Plan × Int)) (t512 : (api_Config)) (a1 : (List Nat)) (_s : Unit) : Option (Bool) :=
  ((config_Plan_Label t535.1 ((-1):Int)).bind fun t939 => (bif (t939 == ((-1):Int)) then ((config_Plan_Label t535.1 (IntKind.i64.wrap ((IntKind.i64.wrap (((t512.Up).length : Int) * (IntKind.i64.wrap (((a1).length : Int) + (1:Int))))) + (1:Int)))).bind fun t945 => (bif (t945 == ((-1):Int)) then ((config_Plan_Part t535.1 ((-1):Int)).bind fun t951 => (bif (t951 == ((-1):Int)) then ((config_Plan_Part t535.1 (IntKind.i64.wrap ((IntKind.i64.wrap (((t512.Up).length : Int) * (IntKind.i64.wrap (((a1).length : Int) + (1:Int))))) + (1:Int)))).bind fun t957 => (bif (t957 == ((-1):Int)) then (gd (decide ((0:Int) ≤ t512.Nodes)) ((config_Plan_All t535.1).bind fun t964 => (bif (t964 == (IntKind.u64.wrap ((iShl .u64 (1:Int) t512.Nodes) - (1:Int)))) then ((config_Plan_Node t535.1 (IntKind.i64.wrap (t512.Nodes - (1:Int)))).bind fun t970 => (bif t970 then ((config_Plan_Node t535.1 t512.Nodes).bind fun t976 => (bif (!t976) then ((config_Plan_Node t535.1 ((-1):Int)).bind fun t982 => (some (!t982))) else (some false))) else (some false))) else (some false)))) else (some false))) else (some false))) else (some false))) else (some false)))
noncomputable def law04_ConfigLanes (a0 : Int) (a1 : (List Nat)) : Option (Bool) :=
  (law04_awake.bind fun t495 => (bif (!t495) then (law04_awake.bind fun t501 => (some t501)) else (bif (decide (((a1).length : Int) > (7:Int))) then (law04_awake.bind fun t507 => (some t507)) else ((ref04_Small a0).bind fun t512 => ((config_New ({ Up := t512.Up, Nodes := t512.Nodes, Cuts := a1, Frame := t512.Frame, Depth := t512.Depth, Quota := t512.Quota, Wide := t512.Wide, Beat := t512.Beat, Elect := t512.Elect } : api_Config)).bind fun t535 => (bif (t535.2 != (0:Int)) then ((ref01_Rising a1).bind fun t543 => (some (!t543))) else ((config_Plan_Shards t535.1).bind fun t548 => (bif (t548 != (IntKind.i64.wrap (((a1).length : Int) + (1:Int)))) then (some false) else ((config_Plan_Lanes t535.1).bind fun t554 => (bif (t554 != (IntKind.i64.wrap ((IntKind.i64.wrap (((t512.Up).length : Int) * (IntKind.i64.wrap (((a1).length : Int) + (1:Int))))) + (1:Int)))) then (some false) else ((config_Plan_Rules t535.1).bind fun t560 => (bif (t560 != (IntKind.i64.wrap ((IntKind.i64.wrap ((IntKind.i64.wrap (((t512.Up).length : Int) * (IntKind.i64.wrap (((a1).length : Int) + (1:Int))))) + (1:Int))) - (1:Int)))) then (some false) else ((config_Plan_L0 t535.1).bind fun t566 => (bif (t566 != ((t512.Up).length : Int)) then (some false) else ((config_Plan_Part t535.1 (IntKind.i64.wrap ((IntKind.i64.wrap ((IntKind.i64.wrap (((t512.Up).length : Int) * (IntKind.i64.wrap (((a1).length : Int) + (1:Int))))) + (1:Int))) - (1:Int)))).bind fun t572 => (bif (t572 != ((-1):Int)) then (some false) else ((config_Plan_Label t535.1 (IntKind.i64.wrap ((IntKind.i64.wrap ((IntKind.i64.wrap (((t512.Up).length : Int) * (IntKind.i64.wrap (((a1).length : Int) + (1:Int))))) + (1:Int))) - (1:Int)))).bind fun t578 => ((ref03_Order t512.Up).bind fun t583 => ((geto t583 (0:Int)).bind fun x590 => (bif (t578 != x590) then (some false) else (joinO (loopO (law04_ConfigLanes_l1 t512 a1 t535) ((-1):Int)) (law04_ConfigLanes_j0 t535 t512 a1))))))))))))))))))))))

noncomputable def number_Shard_l0 (a0 : (List Nat)) (a1 : Nat) (s : (Int × Int)) : Option ((Int × Int) ⊕ (Int)) :=
  match s with | (z207, z208) => (bif (decide (z207 < z208)) then (((geto a0 (IntKind.i64.wrap (iShr .u64 (IntKind.u64.wrap (IntKind.i64.wrap (z207 + z208))) (1:Int)))).bind fun x218 => ((number_Less a1 x218).bind fun t223 => (some t223))).bind fun z228 => (bif (!z228) then (some (Sum.inl ((IntKind.i64.wrap ((IntKind.i64.wrap (iShr .u64 (IntKind.u64.wrap (IntKind.i64.wrap (z207 + z208))) (1:Int))) + (1:Int))), z208))) else (some (Sum.inl (z207, (IntKind.i64.wrap (iShr .u64 (IntKind.u64.wrap (IntKind.i64.wrap (z207 + z208))) (1:Int)))))))) else (inrO (some z207)))
noncomputable def number_Shard (a0 : (List Nat)) (a1 : Nat) : Option (Int) :=
  ((loopO (number_Shard_l0 a0 a1) ((0:Int), ((a0).length : Int))).bind fun z234 => (some z234))

noncomputable def config_Plan_Shard (a0 : (Option config_Plan)) (a1 : Nat) : Option (Int) :=
  (match a0 with | none => (some (0:Int)) | some o0 => ((number_Shard o0.C.Cuts a1).bind fun t92 => (some t92)))

noncomputable def ref01_Shard_l0 (a0 : (List Nat)) (a1 : Nat) (s : (Int × Int)) : Option ((Int × Int) ⊕ (Int)) :=
  match s with | (z143, z144) => (bif (decide (z144 < ((a0).length : Int))) then ((geto a0 z144).bind fun x154 => ((ref01_Ahead a1 x154).bind fun t159 => (bif (!t159) then (some (Sum.inl ((IntKind.i64.wrap (z143 + (1:Int))), (IntKind.i64.wrap (z144 + (1:Int)))))) else (some (Sum.inl (z143, (IntKind.i64.wrap (z144 + (1:Int))))))))) else (inrO (some z143)))
noncomputable def ref01_Shard (a0 : (List Nat)) (a1 : Nat) : Option (Int) :=
  (loopO (ref01_Shard_l0 a0 a1) ((0:Int), (0:Int)))

noncomputable def config_Plan_Span_l0 (a0 : (Option config_Plan)) (a1 : api_Span) (s : (Int × Int)) : Option ((Int × Int) ⊕ (Int)) :=
  match s with | (z150, z151) => ((config_Plan_Shard a0 a1.To).bind fun t160 => (bif (decide (z151 ≤ t160)) then (gd (decide ((0:Int) ≤ z151)) (some (Sum.inl ((bOr .u64 z150 (iShl .u64 (1:Int) z151)), (IntKind.i64.wrap (z151 + (1:Int))))))) else (inrO (some z150))))
noncomputable def config_Plan_Span (a0 : (Option config_Plan)) (a1 : api_Span) : Option (Int) :=
  ((number_Less a1.To a1.From).bind fun t123 => (bif (!t123) then ((config_Plan_Shard a0 a1.From).bind fun t129 => (loopO (config_Plan_Span_l0 a0 a1) ((0:Int), t129))) else (some (0:Int))))

noncomputable def ref04_Span_l0 (a0 : api_Config) (a1 : api_Span) (s : (Int × Int)) : Option ((Int × Int) ⊕ (Int)) :=
  match s with | (z203, z204) => (bif (decide (z204 ≤ ((a0.Cuts).length : Int))) then ((ref01_Ahead a1.To a1.From).bind fun t214 => (bif (!t214) then ((ref01_Shard a0.Cuts a1.From).bind fun t220 => (bif (decide (z204 ≥ t220)) then ((ref01_Shard a0.Cuts a1.To).bind fun t226 => (bif (decide (z204 ≤ t226)) then (gd (decide ((0:Int) ≤ z204)) (some (Sum.inl ((bOr .u64 z203 (iShl .u64 (1:Int) z204)), (IntKind.i64.wrap (z204 + (1:Int))))))) else (some (Sum.inl (z203, (IntKind.i64.wrap (z204 + (1:Int)))))))) else (some (Sum.inl (z203, (IntKind.i64.wrap (z204 + (1:Int)))))))) else (some (Sum.inl (z203, (IntKind.i64.wrap (z204 + (1:Int)))))))) else (inrO (some z203)))
noncomputable def ref04_Span (a0 : api_Config) (a1 : api_Span) : Option (Int) :=
  (loopO (ref04_Span_l0 a0 a1) ((0:Int), (0:Int)))

noncomputable def law04_ConfigShards (a0 : (List Nat)) (a1 : Nat) (a2 : Nat) : Option (Bool) :=
  (law04_awake.bind fun t90 => (bif (!t90) then (law04_awake.bind fun t96 => (some t96)) else (bif (decide (((a0).length : Int) > (7:Int))) then (law04_awake.bind fun t102 => (some t102)) else ((ref01_Rising a0).bind fun t107 => (bif (!t107) then (law04_awake.bind fun t113 => (some t113)) else ((ref04_Small (0:Int)).bind fun t118 => ((config_New ({ Up := t118.Up, Nodes := t118.Nodes, Cuts := a0, Frame := t118.Frame, Depth := t118.Depth, Quota := t118.Quota, Wide := t118.Wide, Beat := t118.Beat, Elect := t118.Elect } : api_Config)).bind fun t141 => (bif (t141.2 == (0:Int)) then ((config_Plan_Shard t141.1 a1).bind fun t156 => ((ref01_Shard a0 a1).bind fun t161 => (bif (t156 == t161) then ((config_Plan_Span t141.1 ({ Label := (0:Int), From := a1, To := a2 } : api_Span)).bind fun t167 => ((ref04_Span ({ Up := t118.Up, Nodes := t118.Nodes, Cuts := a0, Frame := t118.Frame, Depth := t118.Depth, Quota := t118.Quota, Wide := t118.Wide, Beat := t118.Beat, Elect := t118.Elect } : api_Config) ({ Label := (0:Int), From := a1, To := a2 } : api_Span)).bind fun t172 => (some (t167 == t172)))) else (some false)))) else (some false)))))))))
end Go.Proofs.Ytkjkbfaaigmmcaa
