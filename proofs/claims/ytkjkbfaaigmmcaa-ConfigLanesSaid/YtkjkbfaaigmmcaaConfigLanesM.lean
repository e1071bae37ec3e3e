/- The models of the Go functions: plain Lean, no memory. -/
import Derived.Test.YtkjkbfaaigmmcaaConfigLanesGv
set_option linter.unusedVariables false
set_option linter.unusedSimpArgs false
set_option maxRecDepth 100000
set_option maxHeartbeats 4000000
namespace Go.Proofs.Ytkjkbfaaigmmcaa
open Go Go.V
structure api_Config where
  Up : (List Int)
  Nodes : Int
  Cuts : (List Nat)
  Frame : Int
  Depth : Int
  Quota : Int
  Wide : Int
  Beat : Int
  Elect : Int

structure label_Lattice where
  up : (List Int)
  down : (List Int)
  join : (List (List Int))
  meet : (List (List Int))
  rank : (List Int)
  all : (List Int)

structure config_Plan where
  C : api_Config
  L : (Option label_Lattice)

structure api_Rule where
  ID : Int
  From : Int
  To : Int
  Lo : Nat
  Hi : Nat
  Authority : Int
  Quota : Int

structure api_Span where
  Label : Int
  From : Nat
  To : Nat


noncomputable def ref03_Lattices_l2 (z339 : Int) (s : (Int × Int)) : Option ((Int × Int) ⊕ (Int)) :=
  match s with | (z356, z357) => (bif (decide (z357 < (8:Int))) then (bif ((bAnd .i64 z339 z357) == z339) then (gd (decide ((0:Int) ≤ z357)) (some (Sum.inl ((bOr .u64 z356 (iShl .u64 (1:Int) z357)), (IntKind.i64.wrap (z357 + (1:Int))))))) else (some (Sum.inl (z356, (IntKind.i64.wrap (z357 + (1:Int))))))) else (inrO (some z356)))
noncomputable def ref03_Lattices_j1 (z336 : (List Int)) (z339 : Int) (z369 : (Int)) : Option (((List Int) × Int) ⊕ ((List Int))) :=
  (gd (room z336 ([z369])) (some (Sum.inl ((z336 ++ ([z369])), (IntKind.i64.wrap (z339 + (1:Int)))))))
noncomputable def ref03_Lattices_l0 (s : ((List Int) × Int)) : Option (((List Int) × Int) ⊕ ((List Int))) :=
  match s with | (z336, z339) => (bif (decide (z339 < (8:Int))) then (((loopO (ref03_Lattices_l2 z339) ((0:Int), (0:Int)))).bind (ref03_Lattices_j1 z336 z339)) else (inrO (some z336)))
noncomputable def ref03_Lattices (a0 : Int) : Option ((List Int)) :=
  (bif ((Int.tmod a0 (5:Int)) == (0:Int)) then (some ([(3:Int), (2:Int)])) else (bif ((Int.tmod a0 (5:Int)) == (1:Int)) then (some ([(1:Int)])) else (bif ((Int.tmod a0 (5:Int)) == (2:Int)) then (some ([(1:Int), (3:Int), (7:Int)])) else (bif ((Int.tmod a0 (5:Int)) == (3:Int)) then (some ([(15:Int), (10:Int), (12:Int), (8:Int)])) else (loopO (ref03_Lattices_l0) ([], (0:Int)))))))

noncomputable def ref04_Small_j0 (a0 : Int) (z94 : ((List Int))) : Option (api_Config) :=
  (bif ((Int.tmod (IntKind.u8.wrap (Int.tdiv a0 (16:Int))) (2:Int)) == (1:Int)) then (some ({ Up := z94, Nodes := (IntKind.i64.wrap ((1:Int) + (Int.tmod (IntKind.i64.wrap (IntKind.u8.wrap (Int.tdiv a0 (5:Int)))) (3:Int)))), Cuts := [(0:Nat)], Frame := (128:Int), Depth := (512:Int), Quota := (1048576:Int), Wide := (8:Int), Beat := (2:Int), Elect := (4:Int) } : api_Config)) else (some ({ Up := z94, Nodes := (IntKind.i64.wrap ((1:Int) + (Int.tmod (IntKind.i64.wrap (IntKind.u8.wrap (Int.tdiv a0 (5:Int)))) (3:Int)))), Cuts := [], Frame := (128:Int), Depth := (512:Int), Quota := (1048576:Int), Wide := (8:Int), Beat := (2:Int), Elect := (4:Int) } : api_Config)))
noncomputable def ref04_Small (a0 : Int) : Option (api_Config) :=
  ((ref03_Lattices a0).bind fun t64 => (((bif ((Int.tmod a0 (5:Int)) == (4:Int)) then ((ref03_Lattices (0:Int)).bind fun t83 => (some t83)) else (some t64))).bind (ref04_Small_j0 a0)))

noncomputable def math_IsNaN (a0 : Nat) : Option (Bool) :=
  (some (fNe a0 a0))

noncomputable def number_Rank (a0 : Nat) : Option (Int) :=
  ((math_IsNaN a0).bind fun t46 => (bif t46 then (some (18446744073709551615:Int)) else (bif ((iShr .u64 (Int.ofNat a0) (63:Int)) == (1:Int)) then (some (bXor .u64 ((18446744073709551615):Int) (Int.ofNat a0))) else (some (bOr .u64 (Int.ofNat a0) (9223372036854775808:Int))))))

noncomputable def number_Less (a0 : Nat) (a1 : Nat) : Option (Bool) :=
  ((number_Rank a0).bind fun t49 => ((number_Rank a1).bind fun t54 => (some (decide (t49 < t54)))))

noncomputable def number_Rising_l0 (a0 : (List Nat)) (z135 : (Int)) : Option ((Int) ⊕ (Bool)) :=
  (bif (decide (z135 < ((a0).length : Int))) then ((geto a0 (IntKind.i64.wrap (z135 - (1:Int)))).bind fun x145 => ((geto a0 z135).bind fun x150 => ((number_Less x145 x150).bind fun t155 => (bif (!t155) then (inrO (some false)) else (some (Sum.inl (IntKind.i64.wrap (z135 + (1:Int))))))))) else (inrO (some true)))
noncomputable def number_Rising (a0 : (List Nat)) : Option (Bool) :=
  (loopO (number_Rising_l0 a0) (1:Int))

noncomputable def slices_Clone_uint64_uint64 (a0 : (List Int)) : Option ((List Int)) :=
  gd (room ([] : (List Int)) a0) (some a0)

noncomputable def label_Lattice_orders_l1 (o0 : label_Lattice) (x1063 : Int) (z1053 : Int) (z1096 : (Int)) : Option ((Int) ⊕ ((Int) ⊕ (Bool))) :=
  (bif (decide (z1096 < ((o0.up).length : Int))) then (gd (decide ((0:Int) ≤ z1096)) (bif ((bAnd .u64 (iShr .u64 x1063 z1096) (1:Int)) == (1:Int)) then ((geto o0.up z1096).bind fun x1108 => (bif ((bAndNot .u64 x1108 x1063) != (0:Int)) then (inrO (inrO (some false))) else (bif (z1053 != z1096) then (gd (decide ((0:Int) ≤ z1053)) (bif ((bAnd .u64 (iShr .u64 x1108 z1053) (1:Int)) == (1:Int)) then (inrO (inrO (some false))) else (some (Sum.inl (IntKind.i64.wrap (z1096 + (1:Int))))))) else (some (Sum.inl (IntKind.i64.wrap (z1096 + (1:Int)))))))) else (some (Sum.inl (IntKind.i64.wrap (z1096 + (1:Int))))))) else (inrO (some (Sum.inl (IntKind.i64.wrap (z1053 + (1:Int)))))))
noncomputable def label_Lattice_orders_l0 (o0 : label_Lattice) (z1053 : (Int)) : Option ((Int) ⊕ (Bool)) :=
  (bif (decide (z1053 < ((o0.up).length : Int))) then ((geto o0.up z1053).bind fun x1063 => (gd (decide ((0:Int) ≤ ((o0.up).length : Int))) (bif ((iShr .u64 x1063 ((o0.up).length : Int)) != (0:Int)) then (inrO (some false)) else (gd (decide ((0:Int) ≤ z1053)) (bif ((bAnd .u64 (iShr .u64 x1063 z1053) (1:Int)) == (0:Int)) then (inrO (some false)) else (loopO (label_Lattice_orders_l1 o0 x1063 z1053) (0:Int))))))) else (inrO (some true)))
noncomputable def label_Lattice_orders (a0 : (Option label_Lattice)) : Option (Bool) :=
  (match a0 with | none => none | some o0 => (loopO (label_Lattice_orders_l0 o0) (0:Int)))

noncomputable def label_least_l0 (a1 : (List Int)) (a0 : Int) (z1125 : (Int)) : Option ((Int) ⊕ (Int × Bool)) :=
  (bif (decide (z1125 < ((a1).length : Int))) then (gd (decide ((0:Int) ≤ z1125)) (bif ((bAnd .u64 (iShr .u64 a0 z1125) (1:Int)) == (1:Int)) then ((geto a1 z1125).bind fun x1137 => (bif ((bAndNot .u64 a0 x1137) == (0:Int)) then (inrO (some (z1125, true))) else (some (Sum.inl (IntKind.i64.wrap (z1125 + (1:Int))))))) else (some (Sum.inl (IntKind.i64.wrap (z1125 + (1:Int))))))) else (inrO (some ((0:Int), false))))
noncomputable def label_least (a0 : Int) (a1 : (List Int)) : Option (Int × Bool) :=
  (loopO (label_least_l0 a1 a0) (0:Int))

noncomputable def math_bits_OnesCount64 (a0 : Int) : Option (Int) :=
  (some (bAnd .i64 (IntKind.i64.wrap (IntKind.u64.wrap ((IntKind.u64.wrap ((IntKind.u64.wrap ((bAnd .u64 (IntKind.u64.wrap ((iShr .u64 (IntKind.u64.wrap ((bAnd .u64 (iShr .u64 (IntKind.u64.wrap ((bAnd .u64 (iShr .u64 a0 (1:Int)) (6148914691236517205:Int)) + (bAnd .u64 a0 (6148914691236517205:Int)))) (2:Int)) (3689348814741910323:Int)) + (bAnd .u64 (IntKind.u64.wrap ((bAnd .u64 (iShr .u64 a0 (1:Int)) (6148914691236517205:Int)) + (bAnd .u64 a0 (6148914691236517205:Int)))) (3689348814741910323:Int)))) (4:Int)) + (IntKind.u64.wrap ((bAnd .u64 (iShr .u64 (IntKind.u64.wrap ((bAnd .u64 (iShr .u64 a0 (1:Int)) (6148914691236517205:Int)) + (bAnd .u64 a0 (6148914691236517205:Int)))) (2:Int)) (3689348814741910323:Int)) + (bAnd .u64 (IntKind.u64.wrap ((bAnd .u64 (iShr .u64 a0 (1:Int)) (6148914691236517205:Int)) + (bAnd .u64 a0 (6148914691236517205:Int)))) (3689348814741910323:Int)))))) (1085102592571150095:Int)) + (iShr .u64 (bAnd .u64 (IntKind.u64.wrap ((iShr .u64 (IntKind.u64.wrap ((bAnd .u64 (iShr .u64 (IntKind.u64.wrap ((bAnd .u64 (iShr .u64 a0 (1:Int)) (6148914691236517205:Int)) + (bAnd .u64 a0 (6148914691236517205:Int)))) (2:Int)) (3689348814741910323:Int)) + (bAnd .u64 (IntKind.u64.wrap ((bAnd .u64 (iShr .u64 a0 (1:Int)) (6148914691236517205:Int)) + (bAnd .u64 a0 (6148914691236517205:Int)))) (3689348814741910323:Int)))) (4:Int)) + (IntKind.u64.wrap ((bAnd .u64 (iShr .u64 (IntKind.u64.wrap ((bAnd .u64 (iShr .u64 a0 (1:Int)) (6148914691236517205:Int)) + (bAnd .u64 a0 (6148914691236517205:Int)))) (2:Int)) (3689348814741910323:Int)) + (bAnd .u64 (IntKind.u64.wrap ((bAnd .u64 (iShr .u64 a0 (1:Int)) (6148914691236517205:Int)) + (bAnd .u64 a0 (6148914691236517205:Int)))) (3689348814741910323:Int)))))) (1085102592571150095:Int)) (8:Int)))) + (iShr .u64 (IntKind.u64.wrap ((bAnd .u64 (IntKind.u64.wrap ((iShr .u64 (IntKind.u64.wrap ((bAnd .u64 (iShr .u64 (IntKind.u64.wrap ((bAnd .u64 (iShr .u64 a0 (1:Int)) (6148914691236517205:Int)) + (bAnd .u64 a0 (6148914691236517205:Int)))) (2:Int)) (3689348814741910323:Int)) + (bAnd .u64 (IntKind.u64.wrap ((bAnd .u64 (iShr .u64 a0 (1:Int)) (6148914691236517205:Int)) + (bAnd .u64 a0 (6148914691236517205:Int)))) (3689348814741910323:Int)))) (4:Int)) + (IntKind.u64.wrap ((bAnd .u64 (iShr .u64 (IntKind.u64.wrap ((bAnd .u64 (iShr .u64 a0 (1:Int)) (6148914691236517205:Int)) + (bAnd .u64 a0 (6148914691236517205:Int)))) (2:Int)) (3689348814741910323:Int)) + (bAnd .u64 (IntKind.u64.wrap ((bAnd .u64 (iShr .u64 a0 (1:Int)) (6148914691236517205:Int)) + (bAnd .u64 a0 (6148914691236517205:Int)))) (3689348814741910323:Int)))))) (1085102592571150095:Int)) + (iShr .u64 (bAnd .u64 (IntKind.u64.wrap ((iShr .u64 (IntKind.u64.wrap ((bAnd .u64 (iShr .u64 (IntKind.u64.wrap ((bAnd .u64 (iShr .u64 a0 (1:Int)) (6148914691236517205:Int)) + (bAnd .u64 a0 (6148914691236517205:Int)))) (2:Int)) (3689348814741910323:Int)) + (bAnd .u64 (IntKind.u64.wrap ((bAnd .u64 (iShr .u64 a0 (1:Int)) (6148914691236517205:Int)) + (bAnd .u64 a0 (6148914691236517205:Int)))) (3689348814741910323:Int)))) (4:Int)) + (IntKind.u64.wrap ((bAnd .u64 (iShr .u64 (IntKind.u64.wrap ((bAnd .u64 (iShr .u64 a0 (1:Int)) (6148914691236517205:Int)) + (bAnd .u64 a0 (6148914691236517205:Int)))) (2:Int)) (3689348814741910323:Int)) + (bAnd .u64 (IntKind.u64.wrap ((bAnd .u64 (iShr .u64 a0 (1:Int)) (6148914691236517205:Int)) + (bAnd .u64 a0 (6148914691236517205:Int)))) (3689348814741910323:Int)))))) (1085102592571150095:Int)) (8:Int)))) (16:Int)))) + (iShr .u64 (IntKind.u64.wrap ((IntKind.u64.wrap ((bAnd .u64 (IntKind.u64.wrap ((iShr .u64 (IntKind.u64.wrap ((bAnd .u64 (iShr .u64 (IntKind.u64.wrap ((bAnd .u64 (iShr .u64 a0 (1:Int)) (6148914691236517205:Int)) + (bAnd .u64 a0 (6148914691236517205:Int)))) (2:Int)) (3689348814741910323:Int)) + (bAnd .u64 (IntKind.u64.wrap ((bAnd .u64 (iShr .u64 a0 (1:Int)) (6148914691236517205:Int)) + (bAnd .u64 a0 (6148914691236517205:Int)))) (3689348814741910323:Int)))) (4:Int)) + (IntKind.u64.wrap ((bAnd .u64 (iShr .u64 (IntKind.u64.wrap ((bAnd .u64 (iShr .u64 a0 (1:Int)) (6148914691236517205:Int)) + (bAnd .u64 a0 (6148914691236517205:Int)))) (2:Int)) (3689348814741910323:Int)) + (bAnd .u64 (IntKind.u64.wrap ((bAnd .u64 (iShr .u64 a0 (1:Int)) (6148914691236517205:Int)) + (bAnd .u64 a0 (6148914691236517205:Int)))) (3689348814741910323:Int)))))) (1085102592571150095:Int)) + (iShr .u64 (bAnd .u64 (IntKind.u64.wrap ((iShr .u64 (IntKind.u64.wrap ((bAnd .u64 (iShr .u64 (IntKind.u64.wrap ((bAnd .u64 (iShr .u64 a0 (1:Int)) (6148914691236517205:Int)) + (bAnd .u64 a0 (6148914691236517205:Int)))) (2:Int)) (3689348814741910323:Int)) + (bAnd .u64 (IntKind.u64.wrap ((bAnd .u64 (iShr .u64 a0 (1:Int)) (6148914691236517205:Int)) + (bAnd .u64 a0 (6148914691236517205:Int)))) (3689348814741910323:Int)))) (4:Int)) + (IntKind.u64.wrap ((bAnd .u64 (iShr .u64 (IntKind.u64.wrap ((bAnd .u64 (iShr .u64 a0 (1:Int)) (6148914691236517205:Int)) + (bAnd .u64 a0 (6148914691236517205:Int)))) (2:Int)) (3689348814741910323:Int)) + (bAnd .u64 (IntKind.u64.wrap ((bAnd .u64 (iShr .u64 a0 (1:Int)) (6148914691236517205:Int)) + (bAnd .u64 a0 (6148914691236517205:Int)))) (3689348814741910323:Int)))))) (1085102592571150095:Int)) (8:Int)))) + (iShr .u64 (IntKind.u64.wrap ((bAnd .u64 (IntKind.u64.wrap ((iShr .u64 (IntKind.u64.wrap ((bAnd .u64 (iShr .u64 (IntKind.u64.wrap ((bAnd .u64 (iShr .u64 a0 (1:Int)) (6148914691236517205:Int)) + (bAnd .u64 a0 (6148914691236517205:Int)))) (2:Int)) (3689348814741910323:Int)) + (bAnd .u64 (IntKind.u64.wrap ((bAnd .u64 (iShr .u64 a0 (1:Int)) (6148914691236517205:Int)) + (bAnd .u64 a0 (6148914691236517205:Int)))) (3689348814741910323:Int)))) (4:Int)) + (IntKind.u64.wrap ((bAnd .u64 (iShr .u64 (IntKind.u64.wrap ((bAnd .u64 (iShr .u64 a0 (1:Int)) (6148914691236517205:Int)) + (bAnd .u64 a0 (6148914691236517205:Int)))) (2:Int)) (3689348814741910323:Int)) + (bAnd .u64 (IntKind.u64.wrap ((bAnd .u64 (iShr .u64 a0 (1:Int)) (6148914691236517205:Int)) + (bAnd .u64 a0 (6148914691236517205:Int)))) (3689348814741910323:Int)))))) (1085102592571150095:Int)) + (iShr .u64 (bAnd .u64 (IntKind.u64.wrap ((iShr .u64 (IntKind.u64.wrap ((bAnd .u64 (iShr .u64 (IntKind.u64.wrap ((bAnd .u64 (iShr .u64 a0 (1:Int)) (6148914691236517205:Int)) + (bAnd .u64 a0 (6148914691236517205:Int)))) (2:Int)) (3689348814741910323:Int)) + (bAnd .u64 (IntKind.u64.wrap ((bAnd .u64 (iShr .u64 a0 (1:Int)) (6148914691236517205:Int)) + (bAnd .u64 a0 (6148914691236517205:Int)))) (3689348814741910323:Int)))) (4:Int)) + (IntKind.u64.wrap ((bAnd .u64 (iShr .u64 (IntKind.u64.wrap ((bAnd .u64 (iShr .u64 a0 (1:Int)) (6148914691236517205:Int)) + (bAnd .u64 a0 (6148914691236517205:Int)))) (2:Int)) (3689348814741910323:Int)) + (bAnd .u64 (IntKind.u64.wrap ((bAnd .u64 (iShr .u64 a0 (1:Int)) (6148914691236517205:Int)) + (bAnd .u64 a0 (6148914691236517205:Int)))) (3689348814741910323:Int)))))) (1085102592571150095:Int)) (8:Int)))) (16:Int)))) (32:Int))))) (127:Int)))

noncomputable def cmp_isNaN_int (a0 : Int) : Option (Bool) :=
  (some (a0 != a0))

noncomputable def cmp_Compare_int (a0 : Int) (a1 : Int) : Option (Int) :=
  ((cmp_isNaN_int a0).bind fun t2453 => ((cmp_isNaN_int a1).bind fun t2458 => (bif t2453 then (bif t2458 then (some (0:Int)) else (some ((-1):Int))) else (bif t2458 then (some (1:Int)) else (bif (decide (a0 < a1)) then (some ((-1):Int)) else (bif (decide (a0 > a1)) then (some (1:Int)) else (some (0:Int))))))))

noncomputable def label_New_l3 (a0 : (List Int)) (x5678 : Int) (z5668 : Int) (s : (label_Lattice × Int)) : Option ((label_Lattice × Int) ⊕ ((label_Lattice × Int) ⊕ (label_Lattice))) :=
  match s with | (z5736, z5737) => (bif (decide (z5737 < ((a0).length : Int))) then (gd (decide ((0:Int) ≤ z5737)) (bif ((bAnd .u64 (iShr .u64 x5678 z5737) (1:Int)) == (1:Int)) then ((geto z5736.down z5737).bind fun x5762 => (gd (decide ((0:Int) ≤ z5668)) (some (Sum.inl (({ up := z5736.up, down := (z5736.down.set z5737.toNat (bOr .u64 x5762 (iShl .u64 (1:Int) z5668))), join := z5736.join, meet := z5736.meet, rank := z5736.rank, all := z5736.all } : label_Lattice), (IntKind.i64.wrap (z5737 + (1:Int)))))))) else (some (Sum.inl (z5736, (IntKind.i64.wrap (z5737 + (1:Int)))))))) else (inrO (some (Sum.inl (z5736, (IntKind.i64.wrap (z5668 + (1:Int))))))))
noncomputable def label_New_l2 (a0 : (List Int)) (s : (label_Lattice × Int)) : Option ((label_Lattice × Int) ⊕ (label_Lattice)) :=
  match s with | (z5667, z5668) => (bif (decide (z5668 < ((a0).length : Int))) then ((geto a0 z5668).bind fun x5678 => (loopO (label_New_l3 a0 x5678 z5668) (z5667, (0:Int)))) else (inrO (some z5667)))
noncomputable def label_New_l7 (a0 : (List Int)) (z6656 : label_Lattice) (z6657 : Int) (s : ((List Int) × (List Int) × Int)) : Option (((List Int) × (List Int) × Int) ⊕ (((List Int) × (List Int)) ⊕ ((label_Lattice × Int) ⊕ ((label_Lattice) ⊕ (Option label_Lattice × Int))))) :=
  match s with | (z6887, z6890, z6893) => (bif (decide (z6893 < ((a0).length : Int))) then ((geto z6656.up z6657).bind fun x6916 => ((geto z6656.up z6893).bind fun x6921 => ((label_least (bAnd .u64 x6916 x6921) z6656.up).bind fun t6928 => ((geto z6656.down z6657).bind fun x6933 => ((geto z6656.down z6893).bind fun x6938 => ((label_least (bAnd .u64 x6933 x6938) z6656.down).bind fun t6945 => (bif (!t6928.2) then (inrO (inrO (inrO (inrO (some (none, (15:Int))))))) else (bif (!t6945.2) then (inrO (inrO (inrO (inrO (some (none, (15:Int))))))) else (gd (room z6887 ([t6928.1])) (gd (room z6890 ([t6945.1])) (some (Sum.inl ((z6887 ++ ([t6928.1])), (z6890 ++ ([t6945.1])), (IntKind.i64.wrap (z6893 + (1:Int)))))))))))))))) else (inrO (some (Sum.inl (z6887, z6890)))))
noncomputable def label_New_j8 (z6656 : label_Lattice) (z6974 : (List Int)) (z6977 : (List Int)) (z6657 : Int) (_s : Unit) : Option ((label_Lattice × Int) ⊕ ((label_Lattice) ⊕ (Option label_Lattice × Int))) :=
  (gd (room (({ up := z6656.up, down := z6656.down, join := (z6656.join ++ ([z6974])), meet := (z6656.meet ++ ([z6977])), rank := z6656.rank, all := z6656.all } : label_Lattice).all) ([z6657])) (some (Sum.inl (({ up := ({ up := z6656.up, down := z6656.down, join := (z6656.join ++ ([z6974])), meet := (z6656.meet ++ ([z6977])), rank := z6656.rank, all := z6656.all } : label_Lattice).up, down := ({ up := z6656.up, down := z6656.down, join := (z6656.join ++ ([z6974])), meet := (z6656.meet ++ ([z6977])), rank := z6656.rank, all := z6656.all } : label_Lattice).down, join := ({ up := z6656.up, down := z6656.down, join := (z6656.join ++ ([z6974])), meet := (z6656.meet ++ ([z6977])), rank := z6656.rank, all := z6656.all } : label_Lattice).join, meet := ({ up := z6656.up, down := z6656.down, join := (z6656.join ++ ([z6974])), meet := (z6656.meet ++ ([z6977])), rank := z6656.rank, all := z6656.all } : label_Lattice).meet, rank := ({ up := z6656.up, down := z6656.down, join := (z6656.join ++ ([z6974])), meet := (z6656.meet ++ ([z6977])), rank := z6656.rank, all := z6656.all } : label_Lattice).rank, all := ((({ up := z6656.up, down := z6656.down, join := (z6656.join ++ ([z6974])), meet := (z6656.meet ++ ([z6977])), rank := z6656.rank, all := z6656.all } : label_Lattice).all) ++ ([z6657])) } : label_Lattice), (IntKind.i64.wrap (z6657 + (1:Int)))))))
noncomputable def label_New_j6 (z6656 : label_Lattice) (z6657 : Int) (s : ((List Int) × (List Int))) : Option ((label_Lattice × Int) ⊕ ((label_Lattice) ⊕ (Option label_Lattice × Int))) :=
  match s with | (z6974, z6977) => (((gd (room z6656.join ([z6974])) (gd (room z6656.meet ([z6977])) (some ())))).bind (label_New_j8 z6656 z6974 z6977 z6657))
noncomputable def label_New_l5 (a0 : (List Int)) (s : (label_Lattice × Int)) : Option ((label_Lattice × Int) ⊕ ((label_Lattice) ⊕ (Option label_Lattice × Int))) :=
  match s with | (z6656, z6657) => (bif (decide (z6657 < ((a0).length : Int))) then (joinO (loopO (label_New_l7 a0 z6656 z6657) ([], [], (0:Int))) (label_New_j6 z6656 z6657)) else (inrO (some (Sum.inl z6656))))
noncomputable def label_New_l12 (z8244 : Int) (z7116 : label_Lattice) (z8614 : Int) (s : (Int × (List Int))) : Option ((Int × (List Int)) ⊕ ((Int × (List Int)) ⊕ ((List Int)))) :=
  match s with | (z8737, z8738) => (bif (decide (z8737 > z8244)) then ((geto z8738 z8737).bind fun x8748 => ((geto z8738 (IntKind.i64.wrap (z8737 - (1:Int)))).bind fun x8753 => (((geto z7116.down x8748).bind fun x8758 => ((geto z7116.down x8753).bind fun x8763 => ((math_bits_OnesCount64 x8758).bind fun t8768 => ((math_bits_OnesCount64 x8763).bind fun t8773 => ((cmp_Compare_int t8768 t8773).bind fun t8778 => (some t8778)))))).bind fun z8783 => (bif (decide (z8783 < (0:Int))) then ((geto (z8738.set z8737.toNat x8753) (IntKind.i64.wrap (z8737 - (1:Int)))).bind fun x8793 => (some (Sum.inl ((IntKind.i64.wrap (z8737 - (1:Int))), ((z8738.set z8737.toNat x8753).set (IntKind.i64.wrap (z8737 - (1:Int))).toNat x8748))))) else (inrO (some (Sum.inl ((IntKind.i64.wrap (z8614 + (1:Int))), z8738)))))))) else (inrO (some (Sum.inl ((IntKind.i64.wrap (z8614 + (1:Int))), z8738)))))
noncomputable def label_New_l11 (z8245 : Int) (z8244 : Int) (z7116 : label_Lattice) (s : (Int × (List Int))) : Option ((Int × (List Int)) ⊕ ((List Int))) :=
  match s with | (z8614, z8615) => (bif (decide (z8614 < z8245)) then (loopO (label_New_l12 z8244 z7116 z8614) (z8614, z8615)) else (inrO (some z8615)))
noncomputable def label_New_l10 (z7116 : label_Lattice) (s : (Int × Int × (List Int))) : Option ((Int × Int × (List Int)) ⊕ ((List Int) × Int)) :=
  match s with | (z8244, z8245, z8246) => (bif (decide (z8245 ≤ ((z7116.all).length : Int))) then ((loopO (label_New_l11 z8245 z8244 z7116) ((IntKind.i64.wrap (z8244 + (1:Int))), z8246)).bind fun z8802 => (some (Sum.inl (z8245, (IntKind.i64.wrap (z8245 + (20:Int))), z8802)))) else (inrO (some (z8246, z8244))))
noncomputable def label_New_l14 (z8808 : Int) (z7116 : label_Lattice) (z9172 : Int) (s : (Int × (List Int))) : Option ((Int × (List Int)) ⊕ ((Int × (List Int)) ⊕ ((List Int)))) :=
  match s with | (z9295, z9296) => (bif (decide (z9295 > z8808)) then ((geto z9296 z9295).bind fun x9306 => ((geto z9296 (IntKind.i64.wrap (z9295 - (1:Int)))).bind fun x9311 => (((geto z7116.down x9306).bind fun x9316 => ((geto z7116.down x9311).bind fun x9321 => ((math_bits_OnesCount64 x9316).bind fun t9326 => ((math_bits_OnesCount64 x9321).bind fun t9331 => ((cmp_Compare_int t9326 t9331).bind fun t9336 => (some t9336)))))).bind fun z9341 => (bif (decide (z9341 < (0:Int))) then ((geto (z9296.set z9295.toNat x9311) (IntKind.i64.wrap (z9295 - (1:Int)))).bind fun x9351 => (some (Sum.inl ((IntKind.i64.wrap (z9295 - (1:Int))), ((z9296.set z9295.toNat x9311).set (IntKind.i64.wrap (z9295 - (1:Int))).toNat x9306))))) else (inrO (some (Sum.inl ((IntKind.i64.wrap (z9172 + (1:Int))), z9296)))))))) else (inrO (some (Sum.inl ((IntKind.i64.wrap (z9172 + (1:Int))), z9296)))))
noncomputable def label_New_l13 (z7116 : label_Lattice) (z8808 : Int) (s : (Int × (List Int))) : Option ((Int × (List Int)) ⊕ ((List Int))) :=
  match s with | (z9172, z9173) => (bif (decide (z9172 < ((z7116.all).length : Int))) then (loopO (label_New_l14 z8808 z7116 z9172) (z9172, z9173)) else (inrO (some z9173)))
noncomputable def label_New_l17 (z9400 : Int) (z7116 : label_Lattice) (_s : Unit) : Option (Unit ⊕ Unit) :=
  (bif (decide ((IntKind.i64.wrap ((2:Int) * z9400)) ≤ ((z7116.all).length : Int))) then none else (inrO (some ())))
noncomputable def label_New_j16 (z9400 : Int) (z7116 : label_Lattice) (_s : Unit) : Option ((Int) ⊕ ((List Int))) :=
  (bif (decide ((IntKind.i64.wrap ((0:Int) + z9400)) < ((z7116.all).length : Int))) then none else (some (Sum.inl (IntKind.i64.wrap (z9400 * (2:Int))))))
noncomputable def label_New_l15 (z7116 : label_Lattice) (z9360 : (List Int)) (z9400 : (Int)) : Option ((Int) ⊕ ((List Int))) :=
  (bif (decide (z9400 < ((z7116.all).length : Int))) then (((loopO (label_New_l17 z9400 z7116) ())).bind (label_New_j16 z9400 z7116)) else (inrO (some z9360)))
noncomputable def label_New_j9 (z7116 : label_Lattice) (s : ((List Int) × Int)) : Option ((List Int)) :=
  match s with | (z8807, z8808) => ((loopO (label_New_l13 z7116 z8808) ((IntKind.i64.wrap (z8808 + (1:Int))), z8807)).bind fun z9360 => (loopO (label_New_l15 z7116 z9360) (20:Int)))
noncomputable def label_New_l18 (z9431 : (List Int)) (z7116 : label_Lattice) (s : (Int × (List Int))) : Option ((Int × (List Int)) ⊕ (Option label_Lattice × Int)) :=
  match s with | (z9468, z9469) => (bif (decide (z9468 < ((z9431).length : Int))) then ((geto z9431 z9468).bind fun x9479 => ((geto z9469 x9479).bind fun x9484 => (some (Sum.inl ((IntKind.i64.wrap (z9468 + (1:Int))), (z9469.set x9479.toNat z9468)))))) else (inrO (some ((some ({ up := z7116.up, down := z7116.down, join := z7116.join, meet := z7116.meet, rank := z9469, all := z9431 } : label_Lattice)), (0:Int)))))
noncomputable def label_New_j4 (z7116 : (label_Lattice)) : Option (Option label_Lattice × Int) :=
  (((((loopO (label_New_l10 z7116) ((0:Int), (20:Int), z7116.all))).bind (label_New_j9 z7116)).bind fun z9426 => (some z9426)).bind fun z9431 => (loopO (label_New_l18 z9431 z7116) ((0:Int), z7116.rank)))
noncomputable def label_New_j1 (a0 : (List Int)) (z5772 : (label_Lattice)) : Option (Option label_Lattice × Int) :=
  (joinO (loopO (label_New_l5 a0) (z5772, (0:Int))) (label_New_j4))
noncomputable def label_New_j0 (a0 : (List Int)) (z5466 : (label_Lattice)) : Option (Option label_Lattice × Int) :=
  ((label_Lattice_orders (some z5466)).bind fun t5472 => (bif (!t5472) then (some (none, (15:Int))) else (((loopO (label_New_l2 a0) (z5466, (0:Int)))).bind (label_New_j1 a0))))
noncomputable def label_New (a0 : (List Int)) : Option (Option label_Lattice × Int) :=
  (bif (decide (((a0).length : Int) < (1:Int))) then (some (none, (1:Int))) else (bif (decide (((a0).length : Int) > (16:Int))) then (some (none, (1:Int))) else ((((slices_Clone_uint64_uint64 a0).bind fun t4786 => (gd (mkOK ((a0).length : Int) ((a0).length : Int)) (gd (mkOK ((a0).length : Int) ((a0).length : Int)) (some ({ up := t4786, down := (List.replicate (Int.toNat ((a0).length : Int)) (0:Int)), join := [], meet := [], rank := (List.replicate (Int.toNat ((a0).length : Int)) (0:Int)), all := [] } : label_Lattice)))))).bind (label_New_j0 a0))))

noncomputable def config_New_j2 (a0 : api_Config) (z124 : (Bool)) : Option (Option config_Plan × Int) :=
  (bif z124 then (some (none, (1:Int))) else (bif (decide (a0.Beat < (1:Int))) then (some (none, (1:Int))) else (bif (decide (a0.Elect ≤ a0.Beat)) then (some (none, (1:Int))) else (bif (decide (a0.Elect > (1000:Int))) then (some (none, (1:Int))) else ((label_New a0.Up).bind fun t138 => (bif (t138.2 != (0:Int)) then (some (none, t138.2)) else (some ((some ({ C := a0, L := t138.1 } : config_Plan)), (0:Int)))))))))
noncomputable def config_New_j1 (a0 : api_Config) (z113 : (Bool)) : Option (Option config_Plan × Int) :=
  (bif z113 then (some (none, (1:Int))) else (((bif (decide (a0.Quota < (1:Int))) then (some true) else (bif (decide (a0.Quota > (268435456:Int))) then (some (decide (a0.Quota > (268435456:Int)))) else (bif (decide (a0.Wide < (0:Int))) then (some true) else (some (decide (a0.Wide > (256:Int)))))))).bind (config_New_j2 a0)))
noncomputable def config_New_j0 (a0 : api_Config) (z102 : (Bool)) : Option (Option config_Plan × Int) :=
  (bif z102 then (some (none, (1:Int))) else (((bif (decide (a0.Frame < (64:Int))) then (some true) else (bif (decide (a0.Frame > (4096:Int))) then (some (decide (a0.Frame > (4096:Int)))) else (bif (decide (a0.Depth < (1:Int))) then (some true) else (some (decide (a0.Depth > (65536:Int)))))))).bind (config_New_j1 a0)))
noncomputable def config_New (a0 : api_Config) : Option (Option config_Plan × Int) :=
  (((bif (decide (a0.Nodes < (1:Int))) then (some true) else (bif (decide (a0.Nodes > (7:Int))) then (some (decide (a0.Nodes > (7:Int)))) else (bif (decide (((a0.Cuts).length : Int) ≥ (8:Int))) then (some (decide (((a0.Cuts).length : Int) ≥ (8:Int)))) else ((number_Rising a0.Cuts).bind fun t97 => (some (!t97))))))).bind (config_New_j0 a0))

noncomputable def label_Lattice_Len (a0 : (Option label_Lattice)) : Option (Int) :=
  (match a0 with | none => (some (0:Int)) | some o0 => (some ((o0.up).length : Int)))

noncomputable def config_Plan_L0 (a0 : (Option config_Plan)) : Option (Int) :=
  (match a0 with | none => (some (0:Int)) | some o0 => ((label_Lattice_Len o0.L).bind fun t67 => (some t67)))

noncomputable def config_Plan_Shards (a0 : (Option config_Plan)) : Option (Int) :=
  (match a0 with | none => (some (0:Int)) | some o0 => (some (IntKind.i64.wrap (((o0.C.Cuts).length : Int) + (1:Int)))))

noncomputable def config_Plan_Lanes (a0 : (Option config_Plan)) : Option (Int) :=
  ((config_Plan_L0 a0).bind fun t53 => ((config_Plan_Shards a0).bind fun t58 => (some (IntKind.i64.wrap ((IntKind.i64.wrap (t53 * t58)) + (1:Int))))))

noncomputable def config_Plan_Lane (a0 : (Option config_Plan)) (a1 : Int) (a2 : Int) : Option (Int) :=
  (bif (decide (a1 < (0:Int))) then (some ((-1):Int)) else ((config_Plan_L0 a0).bind fun t69 => (bif (decide (a1 ≥ t69)) then (some ((-1):Int)) else (bif (decide (a2 < (0:Int))) then (some ((-1):Int)) else ((config_Plan_Shards a0).bind fun t76 => (bif (decide (a2 ≥ t76)) then (some ((-1):Int)) else ((config_Plan_Shards a0).bind fun t82 => (some (IntKind.i64.wrap ((IntKind.i64.wrap (a1 * t82)) + a2))))))))))

noncomputable def config_Plan_Rules (a0 : (Option config_Plan)) : Option (Int) :=
  ((config_Plan_Lanes a0).bind fun t60 => (some (IntKind.i64.wrap (t60 - (1:Int)))))

noncomputable def label_Lattice_Bottom (a0 : (Option label_Lattice)) : Option (Int) :=
  (match a0 with | none => (some ((-1):Int)) | some o0 => ((geto o0.all (0:Int)).bind fun x125 => (some x125)))

noncomputable def config_Plan_Label (a0 : (Option config_Plan)) (a1 : Int) : Option (Int) :=
  (match a0 with | none => (some ((-1):Int)) | some o0 => (bif (decide (a1 < (0:Int))) then (some ((-1):Int)) else ((config_Plan_Lanes (some o0)).bind fun t114 => (bif (decide (a1 ≥ t114)) then (some ((-1):Int)) else ((config_Plan_Rules (some o0)).bind fun t120 => (bif (a1 == t120) then ((label_Lattice_Bottom o0.L).bind fun t136 => (some t136)) else ((config_Plan_Shards (some o0)).bind fun t141 => (gd (!(t141 == (0:Int))) (some (IntKind.i64.wrap (Int.tdiv a1 t141)))))))))))

noncomputable def law04_awake : Option (Bool) :=
  ((ref04_Small (0:Int)).bind fun t64 => ((config_New ({ Up := t64.Up, Nodes := t64.Nodes, Cuts := [(0:Nat)], Frame := t64.Frame, Depth := t64.Depth, Quota := t64.Quota, Wide := t64.Wide, Beat := t64.Beat, Elect := t64.Elect } : api_Config)).bind fun t95 => (bif (t95.2 == (0:Int)) then ((config_Plan_Lanes t95.1).bind fun t103 => (bif (t103 == (5:Int)) then ((config_Plan_Lane t95.1 (1:Int) (1:Int)).bind fun t109 => (bif (t109 == (3:Int)) then ((config_Plan_Rules t95.1).bind fun t115 => (bif (t115 == (4:Int)) then ((config_Plan_Label t95.1 (2:Int)).bind fun t121 => (some (t121 == (1:Int)))) else (some false))) else (some false))) else (some false))) else (some false))))

noncomputable def math_Signbit (a0 : Nat) : Option (Bool) :=
  (some (decide ((IntKind.i64.wrap (Int.ofNat a0)) < (0:Int))))

noncomputable def ref01_Ahead_j0 (a0 : Nat) (a1 : Nat) (_s : Unit) : Option (Bool) :=
  (some (fLt a0 a1))
noncomputable def ref01_Ahead (a0 : Nat) (a1 : Nat) : Option (Bool) :=
  (bif (fNe a0 a0) then (some false) else (bif (fNe a1 a1) then (some true) else (joinO (bif (fEq a0 (0:Nat)) then (bif (fEq a1 (0:Nat)) then ((math_Signbit a0).bind fun t76 => (bif t76 then ((math_Signbit a1).bind fun t82 => (inrO (some (!t82)))) else (inrO (some false)))) else (some (Sum.inl ()))) else (some (Sum.inl ()))) (ref01_Ahead_j0 a0 a1))))

noncomputable def ref01_Rising_l0 (a0 : (List Nat)) (z148 : (Int)) : Option ((Int) ⊕ (Bool)) :=
  (bif (decide (z148 < ((a0).length : Int))) then ((geto a0 (IntKind.i64.wrap (z148 - (1:Int)))).bind fun x158 => ((geto a0 z148).bind fun x163 => ((ref01_Ahead x158 x163).bind fun t168 => (bif (!t168) then (inrO (some false)) else (some (Sum.inl (IntKind.i64.wrap (z148 + (1:Int))))))))) else (inrO (some true)))
noncomputable def ref01_Rising (a0 : (List Nat)) : Option (Bool) :=
  (loopO (ref01_Rising_l0 a0) (1:Int))

noncomputable def config_Plan_Part (a0 : (Option config_Plan)) (a1 : Int) : Option (Int) :=
  (match a0 with | none => (some ((-1):Int)) | some o0 => (bif (decide (a1 < (0:Int))) then (some ((-1):Int)) else ((config_Plan_Rules (some o0)).bind fun t89 => (bif (decide (a1 ≥ t89)) then (some ((-1):Int)) else ((config_Plan_Shards (some o0)).bind fun t95 => (gd (!(t95 == (0:Int))) (some (Int.tmod a1 t95))))))))

noncomputable def ref03_Leq (a0 : (List Int)) (a1 : Int) (a2 : Int) : Option (Bool) :=
  (bif (decide (a1 ≥ (0:Int))) then (bif (decide (a2 ≥ (0:Int))) then (bif (decide (a1 < ((a0).length : Int))) then (bif (decide (a2 < ((a0).length : Int))) then ((geto a0 a1).bind fun x76 => (gd (decide ((0:Int) ≤ a2)) (some ((bAnd .u64 (iShr .u64 x76 a2) (1:Int)) == (1:Int))))) else (some false)) else (some false)) else (some false)) else (some false))

noncomputable def ref03_Order_l3 (a0 : (List Int)) (z1485 : Int) (s : (Int × Int)) : Option ((Int × Int) ⊕ (Int)) :=
  match s with | (z1511, z1512) => (bif (decide (z1512 < ((a0).length : Int))) then ((ref03_Leq a0 z1512 z1485).bind fun t1522 => (bif t1522 then (some (Sum.inl ((IntKind.i64.wrap (z1511 + (1:Int))), (IntKind.i64.wrap (z1512 + (1:Int)))))) else (some (Sum.inl (z1511, (IntKind.i64.wrap (z1512 + (1:Int)))))))) else (inrO (some z1511)))
noncomputable def ref03_Order_j2 (z1367 : Int) (z1482 : (List Int)) (z1485 : Int) (z1528 : (Int)) : Option (((List Int) × Int) ⊕ (((List Int) × Int) ⊕ ((List Int)))) :=
  (bif (z1528 == z1367) then (gd (room z1482 ([z1485])) (some (Sum.inl ((z1482 ++ ([z1485])), (IntKind.i64.wrap (z1485 + (1:Int))))))) else (some (Sum.inl (z1482, (IntKind.i64.wrap (z1485 + (1:Int)))))))
noncomputable def ref03_Order_l1 (a0 : (List Int)) (z1367 : Int) (s : ((List Int) × Int)) : Option (((List Int) × Int) ⊕ (((List Int) × Int) ⊕ ((List Int)))) :=
  match s with | (z1482, z1485) => (bif (decide (z1485 < ((a0).length : Int))) then (((loopO (ref03_Order_l3 a0 z1485) ((0:Int), (0:Int)))).bind (ref03_Order_j2 z1367 z1482 z1485)) else (inrO (some (Sum.inl (z1482, (IntKind.i64.wrap (z1367 + (1:Int))))))))
noncomputable def ref03_Order_l0 (a0 : (List Int)) (s : ((List Int) × Int)) : Option (((List Int) × Int) ⊕ ((List Int))) :=
  match s with | (z1364, z1367) => (bif (decide (z1367 ≤ ((a0).length : Int))) then (loopO (ref03_Order_l1 a0 z1367) (z1364, (0:Int))) else (inrO (some z1364)))
noncomputable def ref03_Order (a0 : (List Int)) : Option ((List Int)) :=
  (loopO (ref03_Order_l0 a0) ([], (0:Int)))

noncomputable def config_Plan_Chief (a0 : (Option config_Plan)) (a1 : Int) : Option (Int) :=
  ((config_Plan_Lane a0 a1 (0:Int)).bind fun t136 => (some t136))

noncomputable def config_Plan_All (a0 : (Option config_Plan)) : Option (Int) :=
  (match a0 with | none => (some (0:Int)) | some o0 => (gd (decide ((0:Int) ≤ o0.C.Nodes)) (some (IntKind.u64.wrap ((iShl .u64 (1:Int) o0.C.Nodes) - (1:Int))))))

noncomputable def config_Plan_Node (a0 : (Option config_Plan)) (a1 : Int) : Option (Bool) :=
  (match a0 with | none => (some false) | some o0 => (bif (decide (a1 ≥ (0:Int))) then (some (decide (a1 < o0.C.Nodes))) else (some false)))

noncomputable def law04_ConfigLanes_l2 (a1 : (List Nat)) (t535 : (Option config_Plan × Int)) (z815 : Int) (t512 : (api_Config)) (z892 : (Int)) : Option ((Int) ⊕ ((Int) ⊕ (Unit ⊕ (Bool)))) :=
  (bif (decide (z892 ≤ (IntKind.i64.wrap (((a1).length : Int) + (1:Int))))) then ((config_Plan_Lane t535.1 z815 z892).bind fun t902 => (bif (decide (z815 < (0:Int))) then (bif (t902 != ((-1):Int)) then (inrO (inrO (inrO (some false)))) else (some (Sum.inl (IntKind.i64.wrap (z892 + (1:Int)))))) else (bif (decide (z815 ≥ ((t512.Up).length : Int))) then (bif (t902 != ((-1):Int)) then (inrO (inrO (inrO (some false)))) else (some (Sum.inl (IntKind.i64.wrap (z892 + (1:Int)))))) else (bif (decide (z892 < (0:Int))) then (bif (t902 != ((-1):Int)) then (inrO (inrO (inrO (some false)))) else (some (Sum.inl (IntKind.i64.wrap (z892 + (1:Int)))))) else (bif (decide (z892 ≥ (IntKind.i64.wrap (((a1).length : Int) + (1:Int))))) then (bif (t902 != ((-1):Int)) then (inrO (inrO (inrO (some false)))) else (some (Sum.inl (IntKind.i64.wrap (z892 + (1:Int)))))) else (bif (t902 != (IntKind.i64.wrap ((IntKind.i64.wrap (z815 * (IntKind.i64.wrap (((a1).length : Int) + (1:Int))))) + z892))) then (inrO (inrO (inrO (some false)))) else ((config_Plan_Label t535.1 t902).bind fun t916 => (bif (t916 != z815) then (inrO (inrO (inrO (some false)))) else ((config_Plan_Part t535.1 t902).bind fun t922 => (bif (t922 != z892) then (inrO (inrO (inrO (some false)))) else ((config_Plan_Chief t535.1 z815).bind fun t928 => (bif (t928 != (IntKind.i64.wrap (z815 * (IntKind.i64.wrap (((a1).length : Int) + (1:Int)))))) then (inrO (inrO (inrO (some false)))) else (some (Sum.inl (IntKind.i64.wrap (z892 + (1:Int))))))))))))))))) else (inrO (some (Sum.inl (IntKind.i64.wrap (z815 + (1:Int)))))))
noncomputable def law04_ConfigLanes_l1 (t512 : (api_Config)) (a1 : (List Nat)) (t535 : (Option config_Plan × Int)) (z815 : (Int)) : Option ((Int) ⊕ (Unit ⊕ (Bool))) :=
  (bif (decide (z815 ≤ ((t512.Up).length : Int))) then (loopO (law04_ConfigLanes_l2 a1 t535 z815 t512) ((-1):Int)) else (inrO (some (Sum.inl ()))))
noncomputable def law04_ConfigLanes_j0 (t535 : (Option config_Plan × Int)) (t512 : (api_Config)) (a1 : (List Nat)) (_s : Unit) : Option (Bool) :=
  ((config_Plan_Label t535.1 ((-1):Int)).bind fun t939 => (bif (t939 == ((-1):Int)) then ((config_Plan_Label t535.1 (IntKind.i64.wrap ((IntKind.i64.wrap (((t512.Up).length : Int) * (IntKind.i64.wrap (((a1).length : Int) + (1:Int))))) + (1:Int)))).bind fun t945 => (bif (t945 == ((-1):Int)) then ((config_Plan_Part t535.1 ((-1):Int)).bind fun t951 => (bif (t951 == ((-1):Int)) then ((config_Plan_Part t535.1 (IntKind.i64.wrap ((IntKind.i64.wrap (((t512.Up).length : Int) * (IntKind.i64.wrap (((a1).length : Int) + (1:Int))))) + (1:Int)))).bind fun t957 => (bif (t957 == ((-1):Int)) then (gd (decide ((0:Int) ≤ t512.Nodes)) ((config_Plan_All t535.1).bind fun t964 => (bif (t964 == (IntKind.u64.wrap ((iShl .u64 (1:Int) t512.Nodes) - (1:Int)))) then ((config_Plan_Node t535.1 (IntKind.i64.wrap (t512.Nodes - (1:Int)))).bind fun t970 => (bif t970 then ((config_Plan_Node t535.1 t512.Nodes).bind fun t976 => (bif (!t976) then ((config_Plan_Node t535.1 ((-1):Int)).bind fun t982 => (some (!t982))) else (some false))) else (some false))) else (some false)))) else (some false))) else (some false))) else (some false))) else (some false)))
noncomputable def law04_ConfigLanes (a0 : Int) (a1 : (List Nat)) : Option (Bool) :=
  (law04_awake.bind fun t495 => (bif (!t495) then (law04_awake.bind fun t501 => (some t501)) else (bif (decide (((a1).length : Int) > (7:Int))) then (law04_awake.bind fun t507 => (some t507)) else ((ref04_Small a0).bind fun t512 => ((config_New ({ Up := t512.Up, Nodes := t512.Nodes, Cuts := a1, Frame := t512.Frame, Depth := t512.Depth, Quota := t512.Quota, Wide := t512.Wide, Beat := t512.Beat, Elect := t512.Elect } : api_Config)).bind fun t535 => (bif (t535.2 != (0:Int)) then ((ref01_Rising a1).bind fun t543 => (some (!t543))) else ((config_Plan_Shards t535.1).bind fun t548 => (bif (t548 != (IntKind.i64.wrap (((a1).length : Int) + (1:Int)))) then (some false) else ((config_Plan_Lanes t535.1).bind fun t554 => (bif (t554 != (IntKind.i64.wrap ((IntKind.i64.wrap (((t512.Up).length : Int) * (IntKind.i64.wrap (((a1).length : Int) + (1:Int))))) + (1:Int)))) then (some false) else ((config_Plan_Rules t535.1).bind fun t560 => (bif (t560 != (IntKind.i64.wrap ((IntKind.i64.wrap ((IntKind.i64.wrap (((t512.Up).length : Int) * (IntKind.i64.wrap (((a1).length : Int) + (1:Int))))) + (1:Int))) - (1:Int)))) then (some false) else ((config_Plan_L0 t535.1).bind fun t566 => (bif (t566 != ((t512.Up).length : Int)) then (some false) else ((config_Plan_Part t535.1 (IntKind.i64.wrap ((IntKind.i64.wrap ((IntKind.i64.wrap (((t512.Up).length : Int) * (IntKind.i64.wrap (((a1).length : Int) + (1:Int))))) + (1:Int))) - (1:Int)))).bind fun t572 => (bif (t572 != ((-1):Int)) then (some false) else ((config_Plan_Label t535.1 (IntKind.i64.wrap ((IntKind.i64.wrap ((IntKind.i64.wrap (((t512.Up).length : Int) * (IntKind.i64.wrap (((a1).length : Int) + (1:Int))))) + (1:Int))) - (1:Int)))).bind fun t578 => ((ref03_Order t512.Up).bind fun t583 => ((geto t583 (0:Int)).bind fun x590 => (bif (t578 != x590) then (some false) else (joinO (loopO (law04_ConfigLanes_l1 t512 a1 t535) ((-1):Int)) (law04_ConfigLanes_j0 t535 t512 a1))))))))))))))))))))))

noncomputable def config_Most (a0 : Int) (a1 : Int) : Option (Bool) :=
  ((math_bits_OnesCount64 (bAnd .u64 a0 a1)).bind fun t51 => ((math_bits_OnesCount64 a1).bind fun t56 => (some (decide ((IntKind.i64.wrap ((2:Int) * t51)) > t56)))))

noncomputable def law04_ConfigMost_l1 (a1 : Int) (a0 : Int) (s : (Int × Int × Int)) : Option ((Int × Int × Int) ⊕ (Int × Int)) :=
  match s with | (z57, z58, z59) => (bif (decide (z59 < (64:Int))) then (gd (decide ((0:Int) ≤ z59)) (bif ((bAnd .u64 (iShr .u64 a1 z59) (1:Int)) == (1:Int)) then (gd (decide ((0:Int) ≤ z59)) (bif ((bAnd .u64 (iShr .u64 a0 z59) (1:Int)) == (1:Int)) then (some (Sum.inl ((IntKind.i64.wrap (z57 + (1:Int))), (IntKind.i64.wrap (z58 + (1:Int))), (IntKind.i64.wrap (z59 + (1:Int)))))) else (some (Sum.inl (z57, (IntKind.i64.wrap (z58 + (1:Int))), (IntKind.i64.wrap (z59 + (1:Int)))))))) else (some (Sum.inl (z57, z58, (IntKind.i64.wrap (z59 + (1:Int)))))))) else (inrO (some (z57, z58))))
noncomputable def law04_ConfigMost_j0 (a0 : Int) (a1 : Int) (s : (Int × Int)) : Option (Bool) :=
  match s with | (z73, z74) => (law04_awake.bind fun t80 => (bif t80 then ((config_Most a0 a1).bind fun t86 => (some (t86 == (decide (z73 > (IntKind.i64.wrap (z74 - z73))))))) else (some false)))
noncomputable def law04_ConfigMost (a0 : Int) (a1 : Int) : Option (Bool) :=
  (((loopO (law04_ConfigMost_l1 a1 a0) ((0:Int), (0:Int), (0:Int)))).bind (law04_ConfigMost_j0 a0 a1))

noncomputable def ref03_Join_l2 (a0 : (List Int)) (a1 : Int) (a2 : Int) (z1402 : Int) (s : (Bool × Int)) : Option ((Bool × Int) ⊕ ((Int) ⊕ (Int))) :=
  match s with | (z1471, z1472) => (bif (decide (z1472 < ((a0).length : Int))) then (bif z1471 then ((ref03_Leq a0 a1 z1472).bind fun t1483 => (bif t1483 then ((ref03_Leq a0 a2 z1472).bind fun t1489 => (bif t1489 then ((ref03_Leq a0 z1402 z1472).bind fun t1495 => (bif (!t1495) then (some (Sum.inl (false, (IntKind.i64.wrap (z1472 + (1:Int)))))) else (some (Sum.inl (z1471, (IntKind.i64.wrap (z1472 + (1:Int)))))))) else (some (Sum.inl (z1471, (IntKind.i64.wrap (z1472 + (1:Int)))))))) else (some (Sum.inl (z1471, (IntKind.i64.wrap (z1472 + (1:Int)))))))) else (inrO (some (Sum.inl (IntKind.i64.wrap (z1402 + (1:Int))))))) else (inrO (bif z1471 then (inrO (some z1402)) else (some (Sum.inl (IntKind.i64.wrap (z1402 + (1:Int))))))))
noncomputable def ref03_Join_j1 (a0 : (List Int)) (a1 : Int) (a2 : Int) (z1402 : Int) (z1423 : (Bool)) : Option ((Int) ⊕ (Int)) :=
  (loopO (ref03_Join_l2 a0 a1 a2 z1402) (z1423, (0:Int)))
noncomputable def ref03_Join_l0 (a0 : (List Int)) (a1 : Int) (a2 : Int) (z1402 : (Int)) : Option ((Int) ⊕ (Int)) :=
  (bif (decide (z1402 < ((a0).length : Int))) then ((((ref03_Leq a0 a1 z1402).bind fun t1412 => (bif t1412 then ((ref03_Leq a0 a2 z1402).bind fun t1418 => (some t1418)) else (some false)))).bind (ref03_Join_j1 a0 a1 a2 z1402)) else (inrO (some ((-1):Int))))
noncomputable def ref03_Join (a0 : (List Int)) (a1 : Int) (a2 : Int) : Option (Int) :=
  (loopO (ref03_Join_l0 a0 a1 a2) (0:Int))

noncomputable def ref03_Meet_l2 (a0 : (List Int)) (a1 : Int) (a2 : Int) (z1408 : Int) (s : (Bool × Int)) : Option ((Bool × Int) ⊕ ((Int) ⊕ (Int))) :=
  match s with | (z1477, z1478) => (bif (decide (z1478 < ((a0).length : Int))) then (bif z1477 then ((ref03_Leq a0 z1478 a1).bind fun t1489 => (bif t1489 then ((ref03_Leq a0 z1478 a2).bind fun t1495 => (bif t1495 then ((ref03_Leq a0 z1478 z1408).bind fun t1501 => (bif (!t1501) then (some (Sum.inl (false, (IntKind.i64.wrap (z1478 + (1:Int)))))) else (some (Sum.inl (z1477, (IntKind.i64.wrap (z1478 + (1:Int)))))))) else (some (Sum.inl (z1477, (IntKind.i64.wrap (z1478 + (1:Int)))))))) else (some (Sum.inl (z1477, (IntKind.i64.wrap (z1478 + (1:Int)))))))) else (inrO (some (Sum.inl (IntKind.i64.wrap (z1408 + (1:Int))))))) else (inrO (bif z1477 then (inrO (some z1408)) else (some (Sum.inl (IntKind.i64.wrap (z1408 + (1:Int))))))))
noncomputable def ref03_Meet_j1 (a0 : (List Int)) (a1 : Int) (a2 : Int) (z1408 : Int) (z1429 : (Bool)) : Option ((Int) ⊕ (Int)) :=
  (loopO (ref03_Meet_l2 a0 a1 a2 z1408) (z1429, (0:Int)))
noncomputable def ref03_Meet_l0 (a0 : (List Int)) (a1 : Int) (a2 : Int) (z1408 : (Int)) : Option ((Int) ⊕ (Int)) :=
  (bif (decide (z1408 < ((a0).length : Int))) then ((((ref03_Leq a0 z1408 a1).bind fun t1418 => (bif t1418 then ((ref03_Leq a0 z1408 a2).bind fun t1424 => (some t1424)) else (some false)))).bind (ref03_Meet_j1 a0 a1 a2 z1408)) else (inrO (some ((-1):Int))))
noncomputable def ref03_Meet (a0 : (List Int)) (a1 : Int) (a2 : Int) : Option (Int) :=
  (loopO (ref03_Meet_l0 a0 a1 a2) (0:Int))

noncomputable def ref03_Check_l4 (a0 : (List Int)) (z1657 : Int) (z1852 : Int) (z1919 : (Int)) : Option ((Int) ⊕ ((Int) ⊕ ((Int) ⊕ (Unit ⊕ (Int))))) :=
  (bif (decide (z1919 < ((a0).length : Int))) then ((ref03_Leq a0 z1657 z1852).bind fun t1929 => (bif t1929 then ((ref03_Leq a0 z1852 z1919).bind fun t1935 => (bif t1935 then ((ref03_Leq a0 z1657 z1919).bind fun t1941 => (bif (!t1941) then (inrO (inrO (inrO (inrO (some (15:Int)))))) else (some (Sum.inl (IntKind.i64.wrap (z1919 + (1:Int))))))) else (some (Sum.inl (IntKind.i64.wrap (z1919 + (1:Int))))))) else (some (Sum.inl (IntKind.i64.wrap (z1919 + (1:Int))))))) else (inrO (some (Sum.inl (IntKind.i64.wrap (z1852 + (1:Int)))))))
noncomputable def ref03_Check_j3 (a0 : (List Int)) (z1657 : Int) (z1852 : Int) (_s : Unit) : Option ((Int) ⊕ ((Int) ⊕ (Unit ⊕ (Int)))) :=
  (loopO (ref03_Check_l4 a0 z1657 z1852) (0:Int))
noncomputable def ref03_Check_l2 (a0 : (List Int)) (z1657 : Int) (z1852 : (Int)) : Option ((Int) ⊕ ((Int) ⊕ (Unit ⊕ (Int)))) :=
  (bif (decide (z1852 < ((a0).length : Int))) then (joinO (bif (z1657 != z1852) then ((ref03_Leq a0 z1657 z1852).bind fun t1863 => (bif t1863 then ((ref03_Leq a0 z1852 z1657).bind fun t1869 => (bif t1869 then (inrO (inrO (inrO (inrO (some (15:Int)))))) else (some (Sum.inl ())))) else (some (Sum.inl ())))) else (some (Sum.inl ()))) (ref03_Check_j3 a0 z1657 z1852)) else (inrO (some (Sum.inl (IntKind.i64.wrap (z1657 + (1:Int)))))))
noncomputable def ref03_Check_l1 (a0 : (List Int)) (z1657 : (Int)) : Option ((Int) ⊕ (Unit ⊕ (Int))) :=
  (bif (decide (z1657 < ((a0).length : Int))) then ((geto a0 z1657).bind fun x1667 => (gd (decide ((0:Int) ≤ ((a0).length : Int))) (bif ((iShr .u64 x1667 ((a0).length : Int)) != (0:Int)) then (inrO (inrO (some (15:Int)))) else ((ref03_Leq a0 z1657 z1657).bind fun t1674 => (bif (!t1674) then (inrO (inrO (some (15:Int)))) else (loopO (ref03_Check_l2 a0 z1657) (0:Int))))))) else (inrO (some (Sum.inl ()))))
noncomputable def ref03_Check_l6 (a0 : (List Int)) (z2052 : Int) (z2089 : (Int)) : Option ((Int) ⊕ ((Int) ⊕ (Int))) :=
  (bif (decide (z2089 < ((a0).length : Int))) then ((ref03_Join a0 z2052 z2089).bind fun t2099 => (bif (decide (t2099 < (0:Int))) then (inrO (inrO (some (15:Int)))) else ((ref03_Meet a0 z2052 z2089).bind fun t2105 => (bif (decide (t2105 < (0:Int))) then (inrO (inrO (some (15:Int)))) else (some (Sum.inl (IntKind.i64.wrap (z2089 + (1:Int))))))))) else (inrO (some (Sum.inl (IntKind.i64.wrap (z2052 + (1:Int)))))))
noncomputable def ref03_Check_l5 (a0 : (List Int)) (z2052 : (Int)) : Option ((Int) ⊕ (Int)) :=
  (bif (decide (z2052 < ((a0).length : Int))) then (loopO (ref03_Check_l6 a0 z2052) (0:Int)) else (inrO (some (0:Int))))
noncomputable def ref03_Check_j0 (a0 : (List Int)) (_s : Unit) : Option (Int) :=
  (loopO (ref03_Check_l5 a0) (0:Int))
noncomputable def ref03_Check (a0 : (List Int)) : Option (Int) :=
  (bif (decide (((a0).length : Int) < (1:Int))) then (some (1:Int)) else (bif (decide (((a0).length : Int) > (16:Int))) then (some (1:Int)) else (joinO (loopO (ref03_Check_l1 a0) (0:Int)) (ref03_Check_j0 a0))))

noncomputable def ref04_Check_j1 (a0 : api_Config) (z114 : (Bool)) : Option (Int) :=
  (bif (!z114) then (some (1:Int)) else ((ref03_Check a0.Up).bind fun t121 => (some t121)))
noncomputable def ref04_Check_j0 (a0 : api_Config) (z101 : (Bool)) : Option (Int) :=
  (((bif z101 then (bif (decide (a0.Quota ≥ (1:Int))) then (bif (decide (a0.Quota ≤ (268435456:Int))) then (bif (decide (a0.Wide ≥ (0:Int))) then (bif (decide (a0.Wide ≤ (256:Int))) then (bif (decide (a0.Beat ≥ (1:Int))) then (bif (decide (a0.Elect > a0.Beat)) then (some (decide (a0.Elect ≤ (1000:Int)))) else (some false)) else (some false)) else (some false)) else (some false)) else (some false)) else (some false)) else (some false))).bind (ref04_Check_j1 a0))
noncomputable def ref04_Check (a0 : api_Config) : Option (Int) :=
  (((bif (decide (a0.Nodes ≥ (1:Int))) then (bif (decide (a0.Nodes ≤ (7:Int))) then (bif (decide (((a0.Cuts).length : Int) < (8:Int))) then ((ref01_Rising a0.Cuts).bind fun t92 => (bif t92 then (bif (decide (a0.Frame ≥ (64:Int))) then (bif (decide (a0.Frame ≤ (4096:Int))) then (bif (decide (a0.Depth ≥ (1:Int))) then (some (decide (a0.Depth ≤ (65536:Int)))) else (some false)) else (some false)) else (some false)) else (some false))) else (some false)) else (some false)) else (some false))).bind (ref04_Check_j0 a0))

noncomputable def law04_ConfigChecks (a0 : api_Config) : Option (Bool) :=
  (law04_awake.bind fun t51 => (bif (!t51) then (law04_awake.bind fun t57 => (some t57)) else (bif (decide (((a0.Up).length : Int) > (20:Int))) then (law04_awake.bind fun t63 => (some t63)) else (bif (decide (((a0.Cuts).length : Int) > (100:Int))) then (law04_awake.bind fun t69 => (some t69)) else ((config_New a0).bind fun t74 => ((ref04_Check a0).bind fun t81 => (bif (t74.2 == t81) then (some ((!(t74.1.isNone)) == (t81 == (0:Int)))) else (some false))))))))

noncomputable def law04_ConfigNear_j0 (z126 : (api_Config)) : Option (Bool) :=
  ((config_New z126).bind fun t140 => (law04_awake.bind fun t147 => (bif t147 then ((ref04_Check z126).bind fun t153 => (bif (t140.2 == t153) then (some ((!(t140.1.isNone)) == (t140.2 == (0:Int)))) else (some false))) else (some false))))
noncomputable def law04_ConfigNear (a0 : Int) (a1 : Int) (a2 : Int) : Option (Bool) :=
  ((ref04_Small a0).bind fun t80 => (((bif ((Int.tmod a1 (8:Int)) == (0:Int)) then (some ({ Up := t80.Up, Nodes := a2, Cuts := t80.Cuts, Frame := t80.Frame, Depth := t80.Depth, Quota := t80.Quota, Wide := t80.Wide, Beat := t80.Beat, Elect := t80.Elect } : api_Config)) else (bif ((Int.tmod a1 (8:Int)) == (1:Int)) then (some ({ Up := t80.Up, Nodes := t80.Nodes, Cuts := t80.Cuts, Frame := a2, Depth := t80.Depth, Quota := t80.Quota, Wide := t80.Wide, Beat := t80.Beat, Elect := t80.Elect } : api_Config)) else (bif ((Int.tmod a1 (8:Int)) == (2:Int)) then (some ({ Up := t80.Up, Nodes := t80.Nodes, Cuts := t80.Cuts, Frame := t80.Frame, Depth := a2, Quota := t80.Quota, Wide := t80.Wide, Beat := t80.Beat, Elect := t80.Elect } : api_Config)) else (bif ((Int.tmod a1 (8:Int)) == (3:Int)) then (some ({ Up := t80.Up, Nodes := t80.Nodes, Cuts := t80.Cuts, Frame := t80.Frame, Depth := t80.Depth, Quota := a2, Wide := t80.Wide, Beat := t80.Beat, Elect := t80.Elect } : api_Config)) else (bif ((Int.tmod a1 (8:Int)) == (4:Int)) then (some ({ Up := t80.Up, Nodes := t80.Nodes, Cuts := t80.Cuts, Frame := t80.Frame, Depth := t80.Depth, Quota := t80.Quota, Wide := a2, Beat := t80.Beat, Elect := t80.Elect } : api_Config)) else (bif ((Int.tmod a1 (8:Int)) == (5:Int)) then (some ({ Up := t80.Up, Nodes := t80.Nodes, Cuts := t80.Cuts, Frame := t80.Frame, Depth := t80.Depth, Quota := t80.Quota, Wide := t80.Wide, Beat := a2, Elect := t80.Elect } : api_Config)) else (bif ((Int.tmod a1 (8:Int)) == (6:Int)) then (some ({ Up := t80.Up, Nodes := t80.Nodes, Cuts := t80.Cuts, Frame := t80.Frame, Depth := t80.Depth, Quota := t80.Quota, Wide := t80.Wide, Beat := t80.Beat, Elect := a2 } : api_Config)) else (some ({ Up := t80.Up, Nodes := t80.Nodes, Cuts := [(0:Nat), (fOfInt a2)], Frame := t80.Frame, Depth := t80.Depth, Quota := t80.Quota, Wide := t80.Wide, Beat := t80.Beat, Elect := t80.Elect } : api_Config)))))))))).bind (law04_ConfigNear_j0)))

noncomputable def label_Lattice_Is (a0 : (Option label_Lattice)) (a1 : Int) : Option (Bool) :=
  (bif (decide (a1 ≥ (0:Int))) then ((label_Lattice_Len a0).bind fun t76 => (some (decide (a1 < t76)))) else (some false))

noncomputable def config_Plan_Rule (a0 : (Option config_Plan)) (a1 : api_Rule) : Option (Bool) :=
  (match a0 with | none => (some false) | some o0 => ((label_Lattice_Is o0.L a1.From).bind fun t121 => (bif t121 then ((label_Lattice_Is o0.L a1.To).bind fun t127 => (bif t127 then (bif (a1.From != a1.To) then ((number_Less a1.Hi a1.Lo).bind fun t134 => (bif (!t134) then (bif (decide (a1.Quota ≥ (0:Int))) then (some (decide (a1.Quota ≤ (65536:Int)))) else (some false)) else (some false))) else (some false)) else (some false))) else (some false))))

noncomputable def law04_ConfigRules_j0 (t95 : (Option config_Plan × Int)) (a1 : api_Rule) (z114 : (Bool)) : Option (Bool) :=
  (law04_awake.bind fun t120 => (bif t120 then ((config_Plan_Rule t95.1 a1).bind fun t126 => (some (t126 == z114))) else (some false)))
noncomputable def law04_ConfigRules (a0 : Int) (a1 : api_Rule) : Option (Bool) :=
  ((ref04_Small a0).bind fun t71 => ((config_New t71).bind fun t95 => (((bif (decide (a1.From ≥ (0:Int))) then (bif (decide (a1.From < ((t71.Up).length : Int))) then (bif (decide (a1.To ≥ (0:Int))) then (bif (decide (a1.To < ((t71.Up).length : Int))) then (bif (a1.From != a1.To) then ((ref01_Ahead a1.Hi a1.Lo).bind fun t107 => (bif (!t107) then (bif (decide (a1.Quota ≥ (0:Int))) then (some (decide (a1.Quota ≤ (65536:Int)))) else (some false)) else (some false))) else (some false)) else (some false)) else (some false)) else (some false)) else (some false))).bind (law04_ConfigRules_j0 t95 a1))))

noncomputable def number_Shard_l0 (a0 : (List Nat)) (a1 : Nat) (s : (Int × Int)) : Option ((Int × Int) ⊕ (Int)) :=
  match s with | (z207, z208) => (bif (decide (z207 < z208)) then (((geto a0 (IntKind.i64.wrap (iShr .u64 (IntKind.u64.wrap (IntKind.i64.wrap (z207 + z208))) (1:Int)))).bind fun x218 => ((number_Less a1 x218).bind fun t223 => (some t223))).bind fun z228 => (bif (!z228) then (some (Sum.inl ((IntKind.i64.wrap ((IntKind.i64.wrap (iShr .u64 (IntKind.u64.wrap (IntKind.i64.wrap (z207 + z208))) (1:Int))) + (1:Int))), z208))) else (some (Sum.inl (z207, (IntKind.i64.wrap (iShr .u64 (IntKind.u64.wrap (IntKind.i64.wrap (z207 + z208))) (1:Int)))))))) else (inrO (some z207)))
noncomputable def number_Shard (a0 : (List Nat)) (a1 : Nat) : Option (Int) :=
  ((loopO (number_Shard_l0 a0 a1) ((0:Int), ((a0).length : Int))).bind fun z234 => (some z234))

noncomputable def config_Plan_Shard (a0 : (Option config_Plan)) (a1 : Nat) : Option (Int) :=
  (match a0 with | none => (some (0:Int)) | some o0 => ((number_Shard o0.C.Cuts a1).bind fun t92 => (some t92)))

noncomputable def ref01_Shard_l0 (a0 : (List Nat)) (a1 : Nat) (s : (Int × Int)) : Option ((Int × Int) ⊕ (Int)) :=
  match s with | (z143, z144) => (bif (decide (z144 < ((a0).length : Int))) then ((geto a0 z144).bind fun x154 => ((ref01_Ahead a1 x154).bind fun t159 => (bif (!t159) then (some (Sum.inl ((IntKind.i64.wrap (z143 + (1:Int))), (IntKind.i64.wrap (z144 + (1:Int)))))) else (some (Sum.inl (z143, (IntKind.i64.wrap (z144 + (1:Int))))))))) else (inrO (some z143)))
noncomputable def ref01_Shard (a0 : (List Nat)) (a1 : Nat) : Option (Int) :=
  (loopO (ref01_Shard_l0 a0 a1) ((0:Int), (0:Int)))

noncomputable def config_Plan_Span_l0 (a0 : (Option config_Plan)) (a1 : api_Span) (s : (Int × Int)) : Option ((Int × Int) ⊕ (Int)) :=
  match s with | (z150, z151) => ((config_Plan_Shard a0 a1.To).bind fun t160 => (bif (decide (z151 ≤ t160)) then (gd (decide ((0:Int) ≤ z151)) (some (Sum.inl ((bOr .u64 z150 (iShl .u64 (1:Int) z151)), (IntKind.i64.wrap (z151 + (1:Int))))))) else (inrO (some z150))))
noncomputable def config_Plan_Span (a0 : (Option config_Plan)) (a1 : api_Span) : Option (Int) :=
  ((number_Less a1.To a1.From).bind fun t123 => (bif (!t123) then ((config_Plan_Shard a0 a1.From).bind fun t129 => (loopO (config_Plan_Span_l0 a0 a1) ((0:Int), t129))) else (some (0:Int))))

noncomputable def ref04_Span_l0 (a0 : api_Config) (a1 : api_Span) (s : (Int × Int)) : Option ((Int × Int) ⊕ (Int)) :=
  match s with | (z203, z204) => (bif (decide (z204 ≤ ((a0.Cuts).length : Int))) then ((ref01_Ahead a1.To a1.From).bind fun t214 => (bif (!t214) then ((ref01_Shard a0.Cuts a1.From).bind fun t220 => (bif (decide (z204 ≥ t220)) then ((ref01_Shard a0.Cuts a1.To).bind fun t226 => (bif (decide (z204 ≤ t226)) then (gd (decide ((0:Int) ≤ z204)) (some (Sum.inl ((bOr .u64 z203 (iShl .u64 (1:Int) z204)), (IntKind.i64.wrap (z204 + (1:Int))))))) else (some (Sum.inl (z203, (IntKind.i64.wrap (z204 + (1:Int)))))))) else (some (Sum.inl (z203, (IntKind.i64.wrap (z204 + (1:Int)))))))) else (some (Sum.inl (z203, (IntKind.i64.wrap (z204 + (1:Int)))))))) else (inrO (some z203)))
noncomputable def ref04_Span (a0 : api_Config) (a1 : api_Span) : Option (Int) :=
  (loopO (ref04_Span_l0 a0 a1) ((0:Int), (0:Int)))

noncomputable def law04_ConfigShards (a0 : (List Nat)) (a1 : Nat) (a2 : Nat) : Option (Bool) :=
  (law04_awake.bind fun t90 => (bif (!t90) then (law04_awake.bind fun t96 => (some t96)) else (bif (decide (((a0).length : Int) > (7:Int))) then (law04_awake.bind fun t102 => (some t102)) else ((ref01_Rising a0).bind fun t107 => (bif (!t107) then (law04_awake.bind fun t113 => (some t113)) else ((ref04_Small (0:Int)).bind fun t118 => ((config_New ({ Up := t118.Up, Nodes := t118.Nodes, Cuts := a0, Frame := t118.Frame, Depth := t118.Depth, Quota := t118.Quota, Wide := t118.Wide, Beat := t118.Beat, Elect := t118.Elect } : api_Config)).bind fun t141 => (bif (t141.2 == (0:Int)) then ((config_Plan_Shard t141.1 a1).bind fun t156 => ((ref01_Shard a0 a1).bind fun t161 => (bif (t156 == t161) then ((config_Plan_Span t141.1 ({ Label := (0:Int), From := a1, To := a2 } : api_Span)).bind fun t167 => ((ref04_Span ({ Up := t118.Up, Nodes := t118.Nodes, Cuts := a0, Frame := t118.Frame, Depth := t118.Depth, Quota := t118.Quota, Wide := t118.Wide, Beat := t118.Beat, Elect := t118.Elect } : api_Config) ({ Label := (0:Int), From := a1, To := a2 } : api_Span)).bind fun t172 => (some (t167 == t172)))) else (some false)))) else (some false)))))))))
end Go.Proofs.Ytkjkbfaaigmmcaa
