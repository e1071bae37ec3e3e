/- The models of the Go functions: plain Lean, no memory. -/
import Derived.Test.YtbdbeenkamcglaaNetApartGv
set_option linter.unusedVariables false
set_option linter.unusedSimpArgs false
set_option maxRecDepth 100000
set_option maxHeartbeats 4000000
namespace Go.Proofs.Ytbdbeenkamcglaa
open Go Go.V
structure net_Link where
  From : Int
  To : Int
  Lane : Int

structure api_Config where
  Up : (List Int)
  Nodes : Int
  Cuts : (List Nat)
  Frame : Int
  Depth : Int
  Quota : Int
  Wide : Int
  Beat : Int
  Elect : Int

structure label_Lattice where
  up : (List Int)
  down : (List Int)
  join : (List (List Int))
  meet : (List (List Int))
  rank : (List Int)
  all : (List Int)

structure config_Plan where
  C : api_Config
  L : (Option label_Lattice)

structure net_Net where
  p : (Option config_Plan)
  m : (Option (net_Link × (List (List Int))))


noncomputable def ref03_Lattices_l2 (z349 : Int) (s : (Int × Int)) : Option ((Int × Int) ⊕ (Int)) :=
  match s with | (z366, z367) => (bif (decide (z367 < (8:Int))) then (bif ((bAnd .i64 z349 z367) == z349) then (gd (decide ((0:Int) ≤ z367)) (some (Sum.inl ((bOr .u64 z366 (iShl .u64 (1:Int) z367)), (IntKind.i64.wrap (z367 + (1:Int))))))) else (some (Sum.inl (z366, (IntKind.i64.wrap (z367 + (1:Int))))))) else (inrO (some z366)))
noncomputable def ref03_Lattices_j1 (z346 : (List Int)) (z349 : Int) (z379 : (Int)) : Option (((List Int) × Int) ⊕ ((List Int))) :=
  (gd (room z346 ([z379])) (some (Sum.inl ((z346 ++ ([z379])), (IntKind.i64.wrap (z349 + (1:Int)))))))
noncomputable def ref03_Lattices_l0 (s : ((List Int) × Int)) : Option (((List Int) × Int) ⊕ ((List Int))) :=
  match s with | (z346, z349) => (bif (decide (z349 < (8:Int))) then (((loopO (ref03_Lattices_l2 z349) ((0:Int), (0:Int)))).bind (ref03_Lattices_j1 z346 z349)) else (inrO (some z346)))
noncomputable def ref03_Lattices (a0 : Int) : Option ((List Int)) :=
  (bif ((Int.tmod a0 (5:Int)) == (0:Int)) then (some ([(3:Int), (2:Int)])) else (bif ((Int.tmod a0 (5:Int)) == (1:Int)) then (some ([(1:Int)])) else (bif ((Int.tmod a0 (5:Int)) == (2:Int)) then (some ([(1:Int), (3:Int), (7:Int)])) else (bif ((Int.tmod a0 (5:Int)) == (3:Int)) then (some ([(15:Int), (10:Int), (12:Int), (8:Int)])) else (loopO (ref03_Lattices_l0) ([], (0:Int)))))))

noncomputable def ref04_Small_j0 (a0 : Int) (z104 : ((List Int))) : Option (api_Config) :=
  (bif ((Int.tmod (IntKind.u8.wrap (Int.tdiv a0 (16:Int))) (2:Int)) == (1:Int)) then (some ({ Up := z104, Nodes := (IntKind.i64.wrap ((1:Int) + (Int.tmod (IntKind.i64.wrap (IntKind.u8.wrap (Int.tdiv a0 (5:Int)))) (3:Int)))), Cuts := [(0:Nat)], Frame := (128:Int), Depth := (512:Int), Quota := (1048576:Int), Wide := (8:Int), Beat := (2:Int), Elect := (4:Int) } : api_Config)) else (some ({ Up := z104, Nodes := (IntKind.i64.wrap ((1:Int) + (Int.tmod (IntKind.i64.wrap (IntKind.u8.wrap (Int.tdiv a0 (5:Int)))) (3:Int)))), Cuts := [], Frame := (128:Int), Depth := (512:Int), Quota := (1048576:Int), Wide := (8:Int), Beat := (2:Int), Elect := (4:Int) } : api_Config)))
noncomputable def ref04_Small (a0 : Int) : Option (api_Config) :=
  ((ref03_Lattices a0).bind fun t74 => (((bif ((Int.tmod a0 (5:Int)) == (4:Int)) then ((ref03_Lattices (0:Int)).bind fun t93 => (some t93)) else (some t74))).bind (ref04_Small_j0 a0)))

noncomputable def math_IsNaN (a0 : Nat) : Option (Bool) :=
  (some (fNe a0 a0))

noncomputable def number_Rank (a0 : Nat) : Option (Int) :=
  ((math_IsNaN a0).bind fun t51 => (bif t51 then (some (18446744073709551615:Int)) else (bif ((iShr .u64 (Int.ofNat a0) (63:Int)) == (1:Int)) then (some (bXor .u64 ((18446744073709551615):Int) (Int.ofNat a0))) else (some (bOr .u64 (Int.ofNat a0) (9223372036854775808:Int))))))

noncomputable def number_Less (a0 : Nat) (a1 : Nat) : Option (Bool) :=
  ((number_Rank a0).bind fun t54 => ((number_Rank a1).bind fun t59 => (some (decide (t54 < t59)))))

noncomputable def number_Rising_l0 (a0 : (List Nat)) (z140 : (Int)) : Option ((Int) ⊕ (Bool)) :=
  (bif (decide (z140 < ((a0).length : Int))) then ((geto a0 (IntKind.i64.wrap (z140 - (1:Int)))).bind fun x150 => ((geto a0 z140).bind fun x155 => ((number_Less x150 x155).bind fun t160 => (bif (!t160) then (inrO (some false)) else (some (Sum.inl (IntKind.i64.wrap (z140 + (1:Int))))))))) else (inrO (some true)))
noncomputable def number_Rising (a0 : (List Nat)) : Option (Bool) :=
  (loopO (number_Rising_l0 a0) (1:Int))

noncomputable def slices_Clone_uint64_uint64 (a0 : (List Int)) : Option ((List Int)) :=
  gd (room ([] : (List Int)) a0) (some a0)

noncomputable def label_Lattice_orders_l1 (o0 : label_Lattice) (x1068 : Int) (z1058 : Int) (z1101 : (Int)) : Option ((Int) ⊕ ((Int) ⊕ (Bool))) :=
  (bif (decide (z1101 < ((o0.up).length : Int))) then (gd (decide ((0:Int) ≤ z1101)) (bif ((bAnd .u64 (iShr .u64 x1068 z1101) (1:Int)) == (1:Int)) then ((geto o0.up z1101).bind fun x1113 => (bif ((bAndNot .u64 x1113 x1068) != (0:Int)) then (inrO (inrO (some false))) else (bif (z1058 != z1101) then (gd (decide ((0:Int) ≤ z1058)) (bif ((bAnd .u64 (iShr .u64 x1113 z1058) (1:Int)) == (1:Int)) then (inrO (inrO (some false))) else (some (Sum.inl (IntKind.i64.wrap (z1101 + (1:Int))))))) else (some (Sum.inl (IntKind.i64.wrap (z1101 + (1:Int)))))))) else (some (Sum.inl (IntKind.i64.wrap (z1101 + (1:Int))))))) else (inrO (some (Sum.inl (IntKind.i64.wrap (z1058 + (1:Int)))))))
noncomputable def label_Lattice_orders_l0 (o0 : label_Lattice) (z1058 : (Int)) : Option ((Int) ⊕ (Bool)) :=
  (bif (decide (z1058 < ((o0.up).length : Int))) then ((geto o0.up z1058).bind fun x1068 => (gd (decide ((0:Int) ≤ ((o0.up).length : Int))) (bif ((iShr .u64 x1068 ((o0.up).length : Int)) != (0:Int)) then (inrO (some false)) else (gd (decide ((0:Int) ≤ z1058)) (bif ((bAnd .u64 (iShr .u64 x1068 z1058) (1:Int)) == (0:Int)) then (inrO (some false)) else (loopO (label_Lattice_orders_l1 o0 x1068 z1058) (0:Int))))))) else (inrO (some true)))
noncomputable def label_Lattice_orders (a0 : (Option label_Lattice)) : Option (Bool) :=
  (match a0 with | none => none | some o0 => (loopO (label_Lattice_orders_l0 o0) (0:Int)))

noncomputable def label_least_l0 (a1 : (List Int)) (a0 : Int) (z1130 : (Int)) : Option ((Int) ⊕ (Int × Bool)) :=
  (bif (decide (z1130 < ((a1).length : Int))) then (gd (decide ((0:Int) ≤ z1130)) (bif ((bAnd .u64 (iShr .u64 a0 z1130) (1:Int)) == (1:Int)) then ((geto a1 z1130).bind fun x1142 => (bif ((bAndNot .u64 a0 x1142) == (0:Int)) then (inrO (some (z1130, true))) else (some (Sum.inl (IntKind.i64.wrap (z1130 + (1:Int))))))) else (some (Sum.inl (IntKind.i64.wrap (z1130 + (1:Int))))))) else (inrO (some ((0:Int), false))))
noncomputable def label_least (a0 : Int) (a1 : (List Int)) : Option (Int × Bool) :=
  (loopO (label_least_l0 a1 a0) (0:Int))

noncomputable def math_bits_OnesCount64 (a0 : Int) : Option (Int) :=
  (some (bAnd .i64 (IntKind.i64.wrap (IntKind.u64.wrap ((IntKind.u64.wrap ((IntKind.u64.wrap ((bAnd .u64 (IntKind.u64.wrap ((iShr .u64 (IntKind.u64.wrap ((bAnd .u64 (iShr .u64 (IntKind.u64.wrap ((bAnd .u64 (iShr .u64 a0 (1:Int)) (6148914691236517205:Int)) + (bAnd .u64 a0 (6148914691236517205:Int)))) (2:Int)) (3689348814741910323:Int)) + (bAnd .u64 (IntKind.u64.wrap ((bAnd .u64 (iShr .u64 a0 (1:Int)) (6148914691236517205:Int)) + (bAnd .u64 a0 (6148914691236517205:Int)))) (3689348814741910323:Int)))) (4:Int)) + (IntKind.u64.wrap ((bAnd .u64 (iShr .u64 (IntKind.u64.wrap ((bAnd .u64 (iShr .u64 a0 (1:Int)) (6148914691236517205:Int)) + (bAnd .u64 a0 (6148914691236517205:Int)))) (2:Int)) (3689348814741910323:Int)) + (bAnd .u64 (IntKind.u64.wrap ((bAnd .u64 (iShr .u64 a0 (1:Int)) (6148914691236517205:Int)) + (bAnd .u64 a0 (6148914691236517205:Int)))) (3689348814741910323:Int)))))) (1085102592571150095:Int)) + (iShr .u64 (bAnd .u64 (IntKind.u64.wrap ((iShr .u64 (IntKind.u64.wrap ((bAnd .u64 (iShr .u64 (IntKind.u64.wrap ((bAnd .u64 (iShr .u64 a0 (1:Int)) (6148914691236517205:Int)) + (bAnd .u64 a0 (6148914691236517205:Int)))) (2:Int)) (3689348814741910323:Int)) + (bAnd .u64 (IntKind.u64.wrap ((bAnd .u64 (iShr .u64 a0 (1:Int)) (6148914691236517205:Int)) + (bAnd .u64 a0 (6148914691236517205:Int)))) (3689348814741910323:Int)))) (4:Int)) + (IntKind.u64.wrap ((bAnd .u64 (iShr .u64 (IntKind.u64.wrap ((bAnd .u64 (iShr .u64 a0 (1:Int)) (6148914691236517205:Int)) + (bAnd .u64 a0 (6148914691236517205:Int)))) (2:Int)) (3689348814741910323:Int)) + (bAnd .u64 (IntKind.u64.wrap ((bAnd .u64 (iShr .u64 a0 (1:Int)) (6148914691236517205:Int)) + (bAnd .u64 a0 (6148914691236517205:Int)))) (3689348814741910323:Int)))))) (1085102592571150095:Int)) (8:Int)))) + (iShr .u64 (IntKind.u64.wrap ((bAnd .u64 (IntKind.u64.wrap ((iShr .u64 (IntKind.u64.wrap ((bAnd .u64 (iShr .u64 (IntKind.u64.wrap ((bAnd .u64 (iShr .u64 a0 (1:Int)) (6148914691236517205:Int)) + (bAnd .u64 a0 (6148914691236517205:Int)))) (2:Int)) (3689348814741910323:Int)) + (bAnd .u64 (IntKind.u64.wrap ((bAnd .u64 (iShr .u64 a0 (1:Int)) (6148914691236517205:Int)) + (bAnd .u64 a0 (6148914691236517205:Int)))) (3689348814741910323:Int)))) (4:Int)) + (IntKind.u64.wrap ((bAnd .u64 (iShr .u64 (IntKind.u64.wrap ((bAnd .u64 (iShr .u64 a0 (1:Int)) (6148914691236517205:Int)) + (bAnd .u64 a0 (6148914691236517205:Int)))) (2:Int)) (3689348814741910323:Int)) + (bAnd .u64 (IntKind.u64.wrap ((bAnd .u64 (iShr .u64 a0 (1:Int)) (6148914691236517205:Int)) + (bAnd .u64 a0 (6148914691236517205:Int)))) (3689348814741910323:Int)))))) (1085102592571150095:Int)) + (iShr .u64 (bAnd .u64 (IntKind.u64.wrap ((iShr .u64 (IntKind.u64.wrap ((bAnd .u64 (iShr .u64 (IntKind.u64.wrap ((bAnd .u64 (iShr .u64 a0 (1:Int)) (6148914691236517205:Int)) + (bAnd .u64 a0 (6148914691236517205:Int)))) (2:Int)) (3689348814741910323:Int)) + (bAnd .u64 (IntKind.u64.wrap ((bAnd .u64 (iShr .u64 a0 (1:Int)) (6148914691236517205:Int)) + (bAnd .u64 a0 (6148914691236517205:Int)))) (3689348814741910323:Int)))) (4:Int)) + (IntKind.u64.wrap ((bAnd .u64 (iShr .u64 (IntKind.u64.wrap ((bAnd .u64 (iShr .u64 a0 (1:Int)) (6148914691236517205:Int)) + (bAnd .u64 a0 (6148914691236517205:Int)))) (2:Int)) (3689348814741910323:Int)) + (bAnd .u64 (IntKind.u64.wrap ((bAnd .u64 (iShr .u64 a0 (1:Int)) (6148914691236517205:Int)) + (bAnd .u64 a0 (6148914691236517205:Int)))) (3689348814741910323:Int)))))) (1085102592571150095:Int)) (8:Int)))) (16:Int)))) + (iShr .u64 (IntKind.u64.wrap ((IntKind.u64.wrap ((bAnd .u64 (IntKind.u64.wrap ((iShr .u64 (IntKind.u64.wrap ((bAnd .u64 (iShr .u64 (IntKind.u64.wrap ((bAnd .u64 (iShr .u64 a0 (1:Int)) (6148914691236517205:Int)) + (bAnd .u64 a0 (6148914691236517205:Int)))) (2:Int)) (3689348814741910323:Int)) + (bAnd .u64 (IntKind.u64.wrap ((bAnd .u64 (iShr .u64 a0 (1:Int)) (6148914691236517205:Int)) + (bAnd .u64 a0 (6148914691236517205:Int)))) (3689348814741910323:Int)))) (4:Int)) + (IntKind.u64.wrap ((bAnd .u64 (iShr .u64 (IntKind.u64.wrap ((bAnd .u64 (iShr .u64 a0 (1:Int)) (6148914691236517205:Int)) + (bAnd .u64 a0 (6148914691236517205:Int)))) (2:Int)) (3689348814741910323:Int)) + (bAnd .u64 (IntKind.u64.wrap ((bAnd .u64 (iShr .u64 a0 (1:Int)) (6148914691236517205:Int)) + (bAnd .u64 a0 (6148914691236517205:Int)))) (3689348814741910323:Int)))))) (1085102592571150095:Int)) + (iShr .u64 (bAnd .u64 (IntKind.u64.wrap ((iShr .u64 (IntKind.u64.wrap ((bAnd .u64 (iShr .u64 (IntKind.u64.wrap ((bAnd .u64 (iShr .u64 a0 (1:Int)) (6148914691236517205:Int)) + (bAnd .u64 a0 (6148914691236517205:Int)))) (2:Int)) (3689348814741910323:Int)) + (bAnd .u64 (IntKind.u64.wrap ((bAnd .u64 (iShr .u64 a0 (1:Int)) (6148914691236517205:Int)) + (bAnd .u64 a0 (6148914691236517205:Int)))) (3689348814741910323:Int)))) (4:Int)) + (IntKind.u64.wrap ((bAnd .u64 (iShr .u64 (IntKind.u64.wrap ((bAnd .u64 (iShr .u64 a0 (1:Int)) (6148914691236517205:Int)) + (bAnd .u64 a0 (6148914691236517205:Int)))) (2:Int)) (3689348814741910323:Int)) + (bAnd .u64 (IntKind.u64.wrap ((bAnd .u64 (iShr .u64 a0 (1:Int)) (6148914691236517205:Int)) + (bAnd .u64 a0 (6148914691236517205:Int)))) (3689348814741910323:Int)))))) (1085102592571150095:Int)) (8:Int)))) + (iShr .u64 (IntKind.u64.wrap ((bAnd .u64 (IntKind.u64.wrap ((iShr .u64 (IntKind.u64.wrap ((bAnd .u64 (iShr .u64 (IntKind.u64.wrap ((bAnd .u64 (iShr .u64 a0 (1:Int)) (6148914691236517205:Int)) + (bAnd .u64 a0 (6148914691236517205:Int)))) (2:Int)) (3689348814741910323:Int)) + (bAnd .u64 (IntKind.u64.wrap ((bAnd .u64 (iShr .u64 a0 (1:Int)) (6148914691236517205:Int)) + (bAnd .u64 a0 (6148914691236517205:Int)))) (3689348814741910323:Int)))) (4:Int)) + (IntKind.u64.wrap ((bAnd .u64 (iShr .u64 (IntKind.u64.wrap ((bAnd .u64 (iShr .u64 a0 (1:Int)) (6148914691236517205:Int)) + (bAnd .u64 a0 (6148914691236517205:Int)))) (2:Int)) (3689348814741910323:Int)) + (bAnd .u64 (IntKind.u64.wrap ((bAnd .u64 (iShr .u64 a0 (1:Int)) (6148914691236517205:Int)) + (bAnd .u64 a0 (6148914691236517205:Int)))) (3689348814741910323:Int)))))) (1085102592571150095:Int)) + (iShr .u64 (bAnd .u64 (IntKind.u64.wrap ((iShr .u64 (IntKind.u64.wrap ((bAnd .u64 (iShr .u64 (IntKind.u64.wrap ((bAnd .u64 (iShr .u64 a0 (1:Int)) (6148914691236517205:Int)) + (bAnd .u64 a0 (6148914691236517205:Int)))) (2:Int)) (3689348814741910323:Int)) + (bAnd .u64 (IntKind.u64.wrap ((bAnd .u64 (iShr .u64 a0 (1:Int)) (6148914691236517205:Int)) + (bAnd .u64 a0 (6148914691236517205:Int)))) (3689348814741910323:Int)))) (4:Int)) + (IntKind.u64.wrap ((bAnd .u64 (iShr .u64 (IntKind.u64.wrap ((bAnd .u64 (iShr .u64 a0 (1:Int)) (6148914691236517205:Int)) + (bAnd .u64 a0 (6148914691236517205:Int)))) (2:Int)) (3689348814741910323:Int)) + (bAnd .u64 (IntKind.u64.wrap ((bAnd .u64 (iShr .u64 a0 (1:Int)) (6148914691236517205:Int)) + (bAnd .u64 a0 (6148914691236517205:Int)))) (3689348814741910323:Int)))))) (1085102592571150095:Int)) (8:Int)))) (16:Int)))) (32:Int))))) (127:Int)))

noncomputable def cmp_isNaN_int (a0 : Int) : Option (Bool) :=
  (some (a0 != a0))

noncomputable def cmp_Compare_int (a0 : Int) (a1 : Int) : Option (Int) :=
  ((cmp_isNaN_int a0).bind fun t2458 => ((cmp_isNaN_int a1).bind fun t2463 => (bif t2458 then (bif t2463 then (some (0:Int)) else (some ((-1):Int))) else (bif t2463 then (some (1:Int)) else (bif (decide (a0 < a1)) then (some ((-1):Int)) else (bif (decide (a0 > a1)) then (some (1:Int)) else (some (0:Int))))))))

noncomputable def label_New_l3 (a0 : (List Int)) (x5683 : Int) (z5673 : Int) (s : (label_Lattice × Int)) : Option ((label_Lattice × Int) ⊕ ((label_Lattice × Int) ⊕ (label_Lattice))) :=
  match s with | (z5741, z5742) => (bif (decide (z5742 < ((a0).length : Int))) then (gd (decide ((0:Int) ≤ z5742)) (bif ((bAnd .u64 (iShr .u64 x5683 z5742) (1:Int)) == (1:Int)) then ((geto z5741.down z5742).bind fun x5767 => (gd (decide ((0:Int) ≤ z5673)) (some (Sum.inl (({ up := z5741.up, down := (z5741.down.set z5742.toNat (bOr .u64 x5767 (iShl .u64 (1:Int) z5673))), join := z5741.join, meet := z5741.meet, rank := z5741.rank, all := z5741.all } : label_Lattice), (IntKind.i64.wrap (z5742 + (1:Int)))))))) else (some (Sum.inl (z5741, (IntKind.i64.wrap (z5742 + (1:Int)))))))) else (inrO (some (Sum.inl (z5741, (IntKind.i64.wrap (z5673 + (1:Int))))))))
noncomputable def label_New_l2 (a0 : (List Int)) (s : (label_Lattice × Int)) : Option ((label_Lattice × Int) ⊕ (label_Lattice)) :=
  match s with | (z5672, z5673) => (bif (decide (z5673 < ((a0).length : Int))) then ((geto a0 z5673).bind fun x5683 => (loopO (label_New_l3 a0 x5683 z5673) (z5672, (0:Int)))) else (inrO (some z5672)))
noncomputable def label_New_l7 (a0 : (List Int)) (z6661 : label_Lattice) (z6662 : Int) (s : ((List Int) × (List Int) × Int)) : Option (((List Int) × (List Int) × Int) ⊕ (((List Int) × (List Int)) ⊕ ((label_Lattice × Int) ⊕ ((label_Lattice) ⊕ (Option label_Lattice × Int))))) :=
  match s with | (z6892, z6895, z6898) => (bif (decide (z6898 < ((a0).length : Int))) then ((geto z6661.up z6662).bind fun x6921 => ((geto z6661.up z6898).bind fun x6926 => ((label_least (bAnd .u64 x6921 x6926) z6661.up).bind fun t6933 => ((geto z6661.down z6662).bind fun x6938 => ((geto z6661.down z6898).bind fun x6943 => ((label_least (bAnd .u64 x6938 x6943) z6661.down).bind fun t6950 => (bif (!t6933.2) then (inrO (inrO (inrO (inrO (some (none, (15:Int))))))) else (bif (!t6950.2) then (inrO (inrO (inrO (inrO (some (none, (15:Int))))))) else (gd (room z6892 ([t6933.1])) (gd (room z6895 ([t6950.1])) (some (Sum.inl ((z6892 ++ ([t6933.1])), (z6895 ++ ([t6950.1])), (IntKind.i64.wrap (z6898 + (1:Int)))))))))))))))) else (inrO (some (Sum.inl (z6892, z6895)))))
noncomputable def label_New_j8 (z6661 : label_Lattice) (z6979 : (List Int)) (z6982 : (List Int)) (z6662 : Int) (_s : Unit) : Option ((label_Lattice × Int) ⊕ ((label_Lattice) ⊕ (Option label_Lattice × Int))) :=
  (gd (room (({ up := z6661.up, down := z6661.down, join := (z6661.join ++ ([z6979])), meet := (z6661.meet ++ ([z6982])), rank := z6661.rank, all := z6661.all } : label_Lattice).all) ([z6662])) (some (Sum.inl (({ up := ({ up := z6661.up, down := z6661.down, join := (z6661.join ++ ([z6979])), meet := (z6661.meet ++ ([z6982])), rank := z6661.rank, all := z6661.all } : label_Lattice).up, down := ({ up := z6661.up, down := z6661.down, join := (z6661.join ++ ([z6979])), meet := (z6661.meet ++ ([z6982])), rank := z6661.rank, all := z6661.all } : label_Lattice).down, join := ({ up := z6661.up, down := z6661.down, join := (z6661.join ++ ([z6979])), meet := (z6661.meet ++ ([z6982])), rank := z6661.rank, all := z6661.all } : label_Lattice).join, meet := ({ up := z6661.up, down := z6661.down, join := (z6661.join ++ ([z6979])), meet := (z6661.meet ++ ([z6982])), rank := z6661.rank, all := z6661.all } : label_Lattice).meet, rank := ({ up := z6661.up, down := z6661.down, join := (z6661.join ++ ([z6979])), meet := (z6661.meet ++ ([z6982])), rank := z6661.rank, all := z6661.all } : label_Lattice).rank, all := ((({ up := z6661.up, down := z6661.down, join := (z6661.join ++ ([z6979])), meet := (z6661.meet ++ ([z6982])), rank := z6661.rank, all := z6661.all } : label_Lattice).all) ++ ([z6662])) } : label_Lattice), (IntKind.i64.wrap (z6662 + (1:Int)))))))
noncomputable def label_New_j6 (z6661 : label_Lattice) (z6662 : Int) (s : ((List Int) × (List Int))) : Option ((label_Lattice × Int) ⊕ ((label_Lattice) ⊕ (Option label_Lattice × Int))) :=
  match s with | (z6979, z6982) => (((gd (room z6661.join ([z6979])) (gd (room z6661.meet ([z6982])) (some ())))).bind (label_New_j8 z6661 z6979 z6982 z6662))
noncomputable def label_New_l5 (a0 : (List Int)) (s : (label_Lattice × Int)) : Option ((label_Lattice × Int) ⊕ ((label_Lattice) ⊕ (Option label_Lattice × Int))) :=
  match s with | (z6661, z6662) => (bif (decide (z6662 < ((a0).length : Int))) then (joinO (loopO (label_New_l7 a0 z6661 z6662) ([], [], (0:Int))) (label_New_j6 z6661 z6662)) else (inrO (some (Sum.inl z6661))))
noncomputable def label_New_l12 (z8249 : Int) (z7121 : label_Lattice) (z8619 : Int) (s : (Int × (List Int))) : Option ((Int × (List Int)) ⊕ ((Int × (List Int)) ⊕ ((List Int)))) :=
  match s with | (z8742, z8743) => (bif (decide (z8742 > z8249)) then ((geto z8743 z8742).bind fun x8753 => ((geto z8743 (IntKind.i64.wrap (z8742 - (1:Int)))).bind fun x8758 => (((geto z7121.down x8753).bind fun x8763 => ((geto z7121.down x8758).bind fun x8768 => ((math_bits_OnesCount64 x8763).bind fun t8773 => ((math_bits_OnesCount64 x8768).bind fun t8778 => ((cmp_Compare_int t8773 t8778).bind fun t8783 => (some t8783)))))).bind fun z8788 => (bif (decide (z8788 < (0:Int))) then ((geto (z8743.set z8742.toNat x8758) (IntKind.i64.wrap (z8742 - (1:Int)))).bind fun x8798 => (some (Sum.inl ((IntKind.i64.wrap (z8742 - (1:Int))), ((z8743.set z8742.toNat x8758).set (IntKind.i64.wrap (z8742 - (1:Int))).toNat x8753))))) else (inrO (some (Sum.inl ((IntKind.i64.wrap (z8619 + (1:Int))), z8743)))))))) else (inrO (some (Sum.inl ((IntKind.i64.wrap (z8619 + (1:Int))), z8743)))))
noncomputable def label_New_l11 (z8250 : Int) (z8249 : Int) (z7121 : label_Lattice) (s : (Int × (List Int))) : Option ((Int × (List Int)) ⊕ ((List Int))) :=
  match s with | (z8619, z8620) => (bif (decide (z8619 < z8250)) then (loopO (label_New_l12 z8249 z7121 z8619) (z8619, z8620)) else (inrO (some z8620)))
noncomputable def label_New_l10 (z7121 : label_Lattice) (s : (Int × Int × (List Int))) : Option ((Int × Int × (List Int)) ⊕ ((List Int) × Int)) :=
  match s with | (z8249, z8250, z8251) => (bif (decide (z8250 ≤ ((z7121.all).length : Int))) then ((loopO (label_New_l11 z8250 z8249 z7121) ((IntKind.i64.wrap (z8249 + (1:Int))), z8251)).bind fun z8807 => (some (Sum.inl (z8250, (IntKind.i64.wrap (z8250 + (20:Int))), z8807)))) else (inrO (some (z8251, z8249))))
noncomputable def label_New_l14 (z8813 : Int) (z7121 : label_Lattice) (z9177 : Int) (s : (Int × (List Int))) : Option ((Int × (List Int)) ⊕ ((Int × (List Int)) ⊕ ((List Int)))) :=
  match s with | (z9300, z9301) => (bif (decide (z9300 > z8813)) then ((geto z9301 z9300).bind fun x9311 => ((geto z9301 (IntKind.i64.wrap (z9300 - (1:Int)))).bind fun x9316 => (((geto z7121.down x9311).bind fun x9321 => ((geto z7121.down x9316).bind fun x9326 => ((math_bits_OnesCount64 x9321).bind fun t9331 => ((math_bits_OnesCount64 x9326).bind fun t9336 => ((cmp_Compare_int t9331 t9336).bind fun t9341 => (some t9341)))))).bind fun z9346 => (bif (decide (z9346 < (0:Int))) then ((geto (z9301.set z9300.toNat x9316) (IntKind.i64.wrap (z9300 - (1:Int)))).bind fun x9356 => (some (Sum.inl ((IntKind.i64.wrap (z9300 - (1:Int))), ((z9301.set z9300.toNat x9316).set (IntKind.i64.wrap (z9300 - (1:Int))).toNat x9311))))) else (inrO (some (Sum.inl ((IntKind.i64.wrap (z9177 + (1:Int))), z9301)))))))) else (inrO (some (Sum.inl ((IntKind.i64.wrap (z9177 + (1:Int))), z9301)))))
noncomputable def label_New_l13 (z7121 : label_Lattice) (z8813 : Int) (s : (Int × (List Int))) : Option ((Int × (List Int)) ⊕ ((List Int))) :=
  match s with | (z9177, z9178) => (bif (decide (z9177 < ((z7121.all).length : Int))) then (loopO (label_New_l14 z8813 z7121 z9177) (z9177, z9178)) else (inrO (some z9178)))
noncomputable def label_New_l17 (z9405 : Int) (z7121 : label_Lattice) (_s : Unit) : Option (Unit ⊕ Unit) :=
  (bif (decide ((IntKind.i64.wrap ((2:Int) * z9405)) ≤ ((z7121.all).length : Int))) then none else (inrO (some ())))
noncomputable def label_New_j16 (z9405 : Int) (z7121 : label_Lattice) (_s : Unit) : Option ((Int) ⊕ ((List Int))) :=
  (bif (decide ((IntKind.i64.wrap ((0:Int) + z9405)) < ((z7121.all).length : Int))) then none else (some (Sum.inl (IntKind.i64.wrap (z9405 * (2:Int))))))
noncomputable def label_New_l15 (z7121 : label_Lattice) (z9365 : (List Int)) (z9405 : (Int)) : Option ((Int) ⊕ ((List Int))) :=
  (bif (decide (z9405 < ((z7121.all).length : Int))) then (((loopO (label_New_l17 z9405 z7121) ())).bind (label_New_j16 z9405 z7121)) else (inrO (some z9365)))
noncomputable def label_New_j9 (z7121 : label_Lattice) (s : ((List Int) × Int)) : Option ((List Int)) :=
  match s with | (z8812, z8813) => ((loopO (label_New_l13 z7121 z8813) ((IntKind.i64.wrap (z8813 + (1:Int))), z8812)).bind fun z9365 => (loopO (label_New_l15 z7121 z9365) (20:Int)))
noncomputable def label_New_l18 (z9436 : (List Int)) (z7121 : label_Lattice) (s : (Int × (List Int))) : Option ((Int × (List Int)) ⊕ (Option label_Lattice × Int)) :=
  match s with | (z9473, z9474) => (bif (decide (z9473 < ((z9436).length : Int))) then ((geto z9436 z9473).bind fun x9484 => ((geto z9474 x9484).bind fun x9489 => (some (Sum.inl ((IntKind.i64.wrap (z9473 + (1:Int))), (z9474.set x9484.toNat z9473)))))) else (inrO (some ((some ({ up := z7121.up, down := z7121.down, join := z7121.join, meet := z7121.meet, rank := z9474, all := z9436 } : label_Lattice)), (0:Int)))))
noncomputable def label_New_j4 (z7121 : (label_Lattice)) : Option (Option label_Lattice × Int) :=
  (((((loopO (label_New_l10 z7121) ((0:Int), (20:Int), z7121.all))).bind (label_New_j9 z7121)).bind fun z9431 => (some z9431)).bind fun z9436 => (loopO (label_New_l18 z9436 z7121) ((0:Int), z7121.rank)))
noncomputable def label_New_j1 (a0 : (List Int)) (z5777 : (label_Lattice)) : Option (Option label_Lattice × Int) :=
  (joinO (loopO (label_New_l5 a0) (z5777, (0:Int))) (label_New_j4))
noncomputable def label_New_j0 (a0 : (List Int)) (z5471 : (label_Lattice)) : Option (Option label_Lattice × Int) :=
  ((label_Lattice_orders (some z5471)).bind fun t5477 => (bif (!t5477) then (some (none, (15:Int))) else (((loopO (label_New_l2 a0) (z5471, (0:Int)))).bind (label_New_j1 a0))))
noncomputable def label_New (a0 : (List Int)) : Option (Option label_Lattice × Int) :=
  (bif (decide (((a0).length : Int) < (1:Int))) then (some (none, (1:Int))) else (bif (decide (((a0).length : Int) > (16:Int))) then (some (none, (1:Int))) else ((((slices_Clone_uint64_uint64 a0).bind fun t4791 => (gd (mkOK ((a0).length : Int) ((a0).length : Int)) (gd (mkOK ((a0).length : Int) ((a0).length : Int)) (some ({ up := t4791, down := (List.replicate (Int.toNat ((a0).length : Int)) (0:Int)), join := [], meet := [], rank := (List.replicate (Int.toNat ((a0).length : Int)) (0:Int)), all := [] } : label_Lattice)))))).bind (label_New_j0 a0))))

noncomputable def config_New_j2 (a0 : api_Config) (z129 : (Bool)) : Option (Option config_Plan × Int) :=
  (bif z129 then (some (none, (1:Int))) else (bif (decide (a0.Beat < (1:Int))) then (some (none, (1:Int))) else (bif (decide (a0.Elect ≤ a0.Beat)) then (some (none, (1:Int))) else (bif (decide (a0.Elect > (1000:Int))) then (some (none, (1:Int))) else ((label_New a0.Up).bind fun t143 => (bif (t143.2 != (0:Int)) then (some (none, t143.2)) else (some ((some ({ C := a0, L := t143.1 } : config_Plan)), (0:Int)))))))))
noncomputable def config_New_j1 (a0 : api_Config) (z118 : (Bool)) : Option (Option config_Plan × Int) :=
  (bif z118 then (some (none, (1:Int))) else (((bif (decide (a0.Quota < (1:Int))) then (some true) else (bif (decide (a0.Quota > (268435456:Int))) then (some (decide (a0.Quota > (268435456:Int)))) else (bif (decide (a0.Wide < (0:Int))) then (some true) else (some (decide (a0.Wide > (256:Int)))))))).bind (config_New_j2 a0)))
noncomputable def config_New_j0 (a0 : api_Config) (z107 : (Bool)) : Option (Option config_Plan × Int) :=
  (bif z107 then (some (none, (1:Int))) else (((bif (decide (a0.Frame < (64:Int))) then (some true) else (bif (decide (a0.Frame > (4096:Int))) then (some (decide (a0.Frame > (4096:Int)))) else (bif (decide (a0.Depth < (1:Int))) then (some true) else (some (decide (a0.Depth > (65536:Int)))))))).bind (config_New_j1 a0)))
noncomputable def config_New (a0 : api_Config) : Option (Option config_Plan × Int) :=
  (((bif (decide (a0.Nodes < (1:Int))) then (some true) else (bif (decide (a0.Nodes > (7:Int))) then (some (decide (a0.Nodes > (7:Int)))) else (bif (decide (((a0.Cuts).length : Int) ≥ (8:Int))) then (some (decide (((a0.Cuts).length : Int) ≥ (8:Int)))) else ((number_Rising a0.Cuts).bind fun t102 => (some (!t102))))))).bind (config_New_j0 a0))

noncomputable def net_New (a0 : (Option config_Plan)) : Option (net_Net) :=
  (some ({ p := a0, m := none } : net_Net))

noncomputable def law21_open : Option (Option net_Net) :=
  ((ref04_Small (0:Int)).bind fun t53 => ((config_New ({ Up := t53.Up, Nodes := (3:Int), Cuts := t53.Cuts, Frame := t53.Frame, Depth := t53.Depth, Quota := t53.Quota, Wide := t53.Wide, Beat := t53.Beat, Elect := t53.Elect } : api_Config)).bind fun t79 => (bif (t79.2 != (0:Int)) then (some none) else ((net_New t79.1).bind fun t88 => (some (some t88))))))

noncomputable def config_Plan_Node (a0 : (Option config_Plan)) (a1 : Int) : Option (Bool) :=
  (match a0 with | none => (some false) | some o0 => (bif (decide (a1 ≥ (0:Int))) then (some (decide (a1 < o0.C.Nodes))) else (some false)))

noncomputable def label_Lattice_Len (a0 : (Option label_Lattice)) : Option (Int) :=
  (match a0 with | none => (some (0:Int)) | some o0 => (some ((o0.up).length : Int)))

noncomputable def config_Plan_L0 (a0 : (Option config_Plan)) : Option (Int) :=
  (match a0 with | none => (some (0:Int)) | some o0 => ((label_Lattice_Len o0.L).bind fun t88 => (some t88)))

noncomputable def config_Plan_Shards (a0 : (Option config_Plan)) : Option (Int) :=
  (match a0 with | none => (some (0:Int)) | some o0 => (some (IntKind.i64.wrap (((o0.C.Cuts).length : Int) + (1:Int)))))

noncomputable def config_Plan_Lanes (a0 : (Option config_Plan)) : Option (Int) :=
  ((config_Plan_L0 a0).bind fun t74 => ((config_Plan_Shards a0).bind fun t79 => (some (IntKind.i64.wrap ((IntKind.i64.wrap (t74 * t79)) + (1:Int))))))

noncomputable def config_Plan_Rules (a0 : (Option config_Plan)) : Option (Int) :=
  ((config_Plan_Lanes a0).bind fun t75 => (some (IntKind.i64.wrap (t75 - (1:Int)))))

noncomputable def label_Lattice_Bottom (a0 : (Option label_Lattice)) : Option (Int) :=
  (match a0 with | none => (some ((-1):Int)) | some o0 => ((geto o0.all (0:Int)).bind fun x117 => (some x117)))

noncomputable def config_Plan_Label (a0 : (Option config_Plan)) (a1 : Int) : Option (Int) :=
  (match a0 with | none => (some ((-1):Int)) | some o0 => (bif (decide (a1 < (0:Int))) then (some ((-1):Int)) else ((config_Plan_Lanes (some o0)).bind fun t106 => (bif (decide (a1 ≥ t106)) then (some ((-1):Int)) else ((config_Plan_Rules (some o0)).bind fun t112 => (bif (a1 == t112) then ((label_Lattice_Bottom o0.L).bind fun t128 => (some t128)) else ((config_Plan_Shards (some o0)).bind fun t133 => (gd (!(t133 == (0:Int))) (some (IntKind.i64.wrap (Int.tdiv a1 t133)))))))))))

noncomputable def net_Net_is (a0 : (Option net_Net)) (a1 : net_Link) : Option (Bool) :=
  (match a0 with | none => (some false) | some o0 => ((config_Plan_Node o0.p a1.From).bind fun t95 => (bif t95 then ((config_Plan_Node o0.p a1.To).bind fun t101 => (bif t101 then (bif (a1.From != a1.To) then ((config_Plan_Label o0.p a1.Lane).bind fun t108 => (some (decide (t108 ≥ (0:Int))))) else (some false)) else (some false))) else (some false))))

noncomputable def slices_Clone_byte_byte (a0 : (List Int)) : Option ((List Int)) :=
  gd (room ([] : (List Int)) a0) (some a0)

noncomputable def net_Net_Put (a0 : (Option net_Net)) (a1 : net_Link) (a2 : (List Int)) : Option (Int × (Option net_Net)) :=
  (match a0 with | none => ((net_Net_is none a1).bind fun t165 => (bif (!t165) then (some ((1:Int), none)) else none)) | some o0 => ((net_Net_is (some o0) a1).bind fun t176 => (bif (!t176) then (some ((1:Int), (some o0))) else (match o0.m with | none => ((slices_Clone_byte_byte a2).bind fun t190 => (gd (room ([] : List (List Int)) ([t190])) (gd (fits ([t190]) (if (IntKind.i64.wrap ((([t190]).length : Int) - (256:Int))) > (0:Int) then (IntKind.i64.wrap ((([t190]).length : Int) - (256:Int))) else (0:Int)) ((([t190]).length : Nat) : Int)) (some ((0:Int), (some ({ p := o0.p, m := (some (a1, (subs ([t190]) (if (IntKind.i64.wrap ((([t190]).length : Int) - (256:Int))) > (0:Int) then (IntKind.i64.wrap ((([t190]).length : Int) - (256:Int))) else (0:Int)) ((([t190]).length : Nat) : Int)))) } : net_Net))))))) | some y187 => (bif ((a1.From == y187.1.From) && (a1.To == y187.1.To) && (a1.Lane == y187.1.Lane)) then ((slices_Clone_byte_byte a2).bind fun t221 => (gd (room y187.2 ([t221])) (gd (fits (y187.2 ++ ([t221])) (if (IntKind.i64.wrap ((((y187.2 ++ ([t221]))).length : Int) - (256:Int))) > (0:Int) then (IntKind.i64.wrap ((((y187.2 ++ ([t221]))).length : Int) - (256:Int))) else (0:Int)) ((((y187.2 ++ ([t221]))).length : Nat) : Int)) (some ((0:Int), (some ({ p := o0.p, m := (some (a1, (subs (y187.2 ++ ([t221])) (if (IntKind.i64.wrap ((((y187.2 ++ ([t221]))).length : Int) - (256:Int))) > (0:Int) then (IntKind.i64.wrap ((((y187.2 ++ ([t221]))).length : Int) - (256:Int))) else (0:Int)) ((((y187.2 ++ ([t221]))).length : Nat) : Int)))) } : net_Net))))))) else ((slices_Clone_byte_byte a2).bind fun t250 => (gd (room ([] : List (List Int)) ([t250])) (gd (fits ([t250]) (if (IntKind.i64.wrap ((([t250]).length : Int) - (256:Int))) > (0:Int) then (IntKind.i64.wrap ((([t250]).length : Int) - (256:Int))) else (0:Int)) ((([t250]).length : Nat) : Int)) none))))))))

noncomputable def net_Net_place (a0 : (Option net_Net)) (a1 : net_Link) (a2 : Int) : Option (Int) :=
  (match a0 with | none => ((net_Net_is none a1).bind fun t156 => (bif (!t156) then (some ((-1):Int)) else none)) | some o0 => (match o0.m with | none => ((net_Net_is (some o0) a1).bind fun t174 => (bif (!t174) then (some ((-1):Int)) else (bif (((([] : List (List Int))).length : Int) == (0:Int)) then (some ((-1):Int)) else (gd (!((IntKind.u64.wrap ((([] : List (List Int))).length : Int)) == (0:Int))) (some (IntKind.i64.wrap (Int.tmod (IntKind.u64.wrap a2) (IntKind.u64.wrap ((([] : List (List Int))).length : Int))))))))) | some y172 => (bif ((a1.From == y172.1.From) && (a1.To == y172.1.To) && (a1.Lane == y172.1.Lane)) then ((net_Net_is (some o0) a1).bind fun t195 => (bif (!t195) then (some ((-1):Int)) else (bif (((y172.2).length : Int) == (0:Int)) then (some ((-1):Int)) else (gd (!((IntKind.u64.wrap ((y172.2).length : Int)) == (0:Int))) (some (IntKind.i64.wrap (Int.tmod (IntKind.u64.wrap a2) (IntKind.u64.wrap ((y172.2).length : Int))))))))) else ((net_Net_is (some o0) a1).bind fun t213 => (bif (!t213) then (some ((-1):Int)) else (bif (((([] : List (List Int))).length : Int) == (0:Int)) then (some ((-1):Int)) else (gd (!((IntKind.u64.wrap ((([] : List (List Int))).length : Int)) == (0:Int))) (some (IntKind.i64.wrap (Int.tmod (IntKind.u64.wrap a2) (IntKind.u64.wrap ((([] : List (List Int))).length : Int))))))))))))

noncomputable def slices_Delete_byte_byte (a0 : (List (List Int))) (a1 a2 : Int) : Option ((List (List Int))) :=
  gd (fits a0 a1 a2) (some (del a0 a1 a2))

noncomputable def net_Net_Take (a0 : (Option net_Net)) (a1 : net_Link) (a2 : Int) : Option ((List Int) × Bool × (Option net_Net)) :=
  (match a0 with | none => ((net_Net_place none a1 a2).bind fun t128 => (bif (decide (t128 < (0:Int))) then (some ([], false, none)) else none)) | some o0 => ((net_Net_place (some o0) a1 a2).bind fun t142 => (bif (decide (t142 < (0:Int))) then (some ([], false, (some o0))) else (match o0.m with | none => none | some y155 => (bif ((a1.From == y155.1.From) && (a1.To == y155.1.To) && (a1.Lane == y155.1.Lane)) then ((geto y155.2 t142).bind fun x163 => ((slices_Delete_byte_byte y155.2 t142 (IntKind.i64.wrap (t142 + (1:Int)))).bind fun t174 => (some (x163, true, (some ({ p := o0.p, m := (some (a1, t174)) } : net_Net)))))) else none)))))

noncomputable def net_Net_Len (a0 : (Option net_Net)) (a1 : net_Link) : Option (Int) :=
  (match a0 with | none => ((net_Net_is none a1).bind fun t111 => (bif (!t111) then (some (0:Int)) else none)) | some o0 => ((net_Net_is (some o0) a1).bind fun t122 => (bif (!t122) then (some (0:Int)) else (match o0.m with | none => (some ((([] : List (List Int))).length : Int)) | some y133 => (bif ((a1.From == y133.1.From) && (a1.To == y133.1.To) && (a1.Lane == y133.1.Lane)) then (some ((y133.2).length : Int)) else (some ((([] : List (List Int))).length : Int)))))))

noncomputable def law21_awake : Option (Bool) :=
  (law21_open.bind fun t73 => (bif (t73.isNone) then (some false) else ((net_Net_Put t73 ({ From := (0:Int), To := (1:Int), Lane := (2:Int) } : net_Link) ([(97:Int)])).bind fun t99 => ((net_Net_Put t99.2 ({ From := (0:Int), To := (1:Int), Lane := (2:Int) } : net_Link) ([(98:Int)])).bind fun t114 => ((net_Net_Take t114.2 ({ From := (0:Int), To := (1:Int), Lane := (2:Int) } : net_Link) (3:Int)).bind fun t119 => (bif t119.2.1 then (bif (sEq (toStr t119.1) (ByteArray.mk #[98])) then ((net_Net_Len t119.2.2 ({ From := (0:Int), To := (1:Int), Lane := (2:Int) } : net_Link)).bind fun t129 => (some (t129 == (1:Int)))) else (some false)) else (some false)))))))

noncomputable def law21_NetApart (a0 : net_Link) (a1 : net_Link) (a2 : (List Int)) : Option (Bool) :=
  (law21_awake.bind fun t77 => (bif (!t77) then (law21_awake.bind fun t83 => (some t83)) else (bif (decide (((a2).length : Int) > (100:Int))) then (law21_awake.bind fun t89 => (some t89)) else (law21_open.bind fun t94 => ((net_Net_Put t94 ({ From := (IntKind.i64.wrap (Int.tmod (IntKind.u64.wrap a0.From) (3:Int))), To := (IntKind.i64.wrap (Int.tmod (IntKind.u64.wrap a0.To) (3:Int))), Lane := (IntKind.i64.wrap (Int.tmod (IntKind.u64.wrap a0.Lane) (3:Int))) } : net_Link) a2).bind fun t104 => (bif (t104.1 != (0:Int)) then (bif ((IntKind.i64.wrap (Int.tmod (IntKind.u64.wrap a0.From) (3:Int))) == (IntKind.i64.wrap (Int.tmod (IntKind.u64.wrap a0.To) (3:Int)))) then ((net_Net_Len t104.2 ({ From := (IntKind.i64.wrap (Int.tmod (IntKind.u64.wrap a0.From) (3:Int))), To := (IntKind.i64.wrap (Int.tmod (IntKind.u64.wrap a0.To) (3:Int))), Lane := (IntKind.i64.wrap (Int.tmod (IntKind.u64.wrap a0.Lane) (3:Int))) } : net_Link)).bind fun t111 => (some (t111 == (0:Int)))) else (some false)) else ((net_Net_Take t104.2 a1 (0:Int)).bind fun t116 => (bif (t116.2.1 == (((IntKind.i64.wrap (Int.tmod (IntKind.u64.wrap a0.From) (3:Int))) == a1.From) && ((IntKind.i64.wrap (Int.tmod (IntKind.u64.wrap a0.To) (3:Int))) == a1.To) && ((IntKind.i64.wrap (Int.tmod (IntKind.u64.wrap a0.Lane) (3:Int))) == a1.Lane))) then (bif t116.2.1 then (some true) else ((net_Net_Len t116.2.2 ({ From := (IntKind.i64.wrap (Int.tmod (IntKind.u64.wrap a0.From) (3:Int))), To := (IntKind.i64.wrap (Int.tmod (IntKind.u64.wrap a0.To) (3:Int))), Lane := (IntKind.i64.wrap (Int.tmod (IntKind.u64.wrap a0.Lane) (3:Int))) } : net_Link)).bind fun t126 => (some (t126 == (1:Int))))) else (some false)))))))))
end Go.Proofs.Ytbdbeenkamcglaa
