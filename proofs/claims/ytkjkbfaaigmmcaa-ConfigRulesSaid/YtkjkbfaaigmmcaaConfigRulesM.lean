/- The models of the Go functions: plain Lean, no memory. -/
import Derived.Test.YtkjkbfaaigmmcaaConfigRulesGv
set_option linter.unusedVariables false
set_option linter.unusedSimpArgs false
set_option maxRecDepth 100000
set_option maxHeartbeats 4000000
namespace Go.Proofs.Ytkjkbfaaigmmcaa
open Go Go.V
structure api_Rule where
  ID : Int
  From : Int
  To : Int
  Lo : Nat
  Hi : Nat
  Authority : Int
  Quota : Int

structure api_Config where
  Up : (List Int)
  Nodes : Int
  Cuts : (List Nat)
  Frame : Int
  Depth : Int
  Quota : Int
  Wide : Int
  Beat : Int
  Elect : Int

structure label_Lattice where
  up : (List Int)
  down : (List Int)
  join : (List (List Int))
  meet : (List (List Int))
  rank : (List Int)
  all : (List Int)

structure config_Plan where
  C : api_Config
  L : (Option label_Lattice)

structure api_Span where
  Label : Int
  From : Nat
  To : Nat


noncomputable def ref03_Lattices_l2 (z343 : Int) (s : (Int × Int)) : Option ((Int × Int) ⊕ (Int)) :=
  match s with | (z360, z361) => (bif (decide (z361 < (8:Int))) then (bif ((bAnd .i64 z343 z361) == z343) then (gd (decide ((0:Int) ≤ z361)) (some (Sum.inl ((bOr .u64 z360 (iShl .u64 (1:Int) z361)), (IntKind.i64.wrap (z361 + (1:Int))))))) else (some (Sum.inl (z360, (IntKind.i64.wrap (z361 + (1:Int))))))) else (inrO (some z360)))
noncomputable def ref03_Lattices_j1 (z340 : (List Int)) (z343 : Int) (z373 : (Int)) : Option (((List Int) × Int) ⊕ ((List Int))) :=
  (gd (room z340 ([z373])) (some (Sum.inl ((z340 ++ ([z373])), (IntKind.i64.wrap (z343 + (1:Int)))))))
noncomputable def ref03_Lattices_l0 (s : ((List Int) × Int)) : Option (((List Int) × Int) ⊕ ((List Int))) :=
  match s with | (z340, z343) => (bif (decide (z343 < (8:Int))) then (((loopO (ref03_Lattices_l2 z343) ((0:Int), (0:Int)))).bind (ref03_Lattices_j1 z340 z343)) else (inrO (some z340)))
noncomputable def ref03_Lattices (a0 : Int) : Option ((List Int)) :=
  (bif ((Int.tmod a0 (5:Int)) == (0:Int)) then (some ([(3:Int), (2:Int)])) else (bif ((Int.tmod a0 (5:Int)) == (1:Int)) then (some ([(1:Int)])) else (bif ((Int.tmod a0 (5:Int)) == (2:Int)) then (some ([(1:Int), (3:Int), (7:Int)])) else (bif ((Int.tmod a0 (5:Int)) == (3:Int)) then (some ([(15:Int), (10:Int), (12:Int), (8:Int)])) else (loopO (ref03_Lattices_l0) ([], (0:Int)))))))

noncomputable def ref04_Small_j0 (a0 : Int) (z98 : ((List Int))) : Option (api_Config) :=
  (bif ((Int.tmod (IntKind.u8.wrap (Int.tdiv a0 (16:Int))) (2:Int)) == (1:Int)) then (some ({ Up := z98, Nodes := (IntKind.i64.wrap ((1:Int) + (Int.tmod (IntKind.i64.wrap (IntKind.u8.wrap (Int.tdiv a0 (5:Int)))) (3:Int)))), Cuts := [(0:Nat)], Frame := (128:Int), Depth := (512:Int), Quota := (1048576:Int), Wide := (8:Int), Beat := (2:Int), Elect := (4:Int) } : api_Config)) else (some ({ Up := z98, Nodes := (IntKind.i64.wrap ((1:Int) + (Int.tmod (IntKind.i64.wrap (IntKind.u8.wrap (Int.tdiv a0 (5:Int)))) (3:Int)))), Cuts := [], Frame := (128:Int), Depth := (512:Int), Quota := (1048576:Int), Wide := (8:Int), Beat := (2:Int), Elect := (4:Int) } : api_Config)))
noncomputable def ref04_Small (a0 : Int) : Option (api_Config) :=
  ((ref03_Lattices a0).bind fun t68 => (((bif ((Int.tmod a0 (5:Int)) == (4:Int)) then ((ref03_Lattices (0:Int)).bind fun t87 => (some t87)) else (some t68))).bind (ref04_Small_j0 a0)))

noncomputable def math_IsNaN (a0 : Nat) : Option (Bool) :=
  (some (fNe a0 a0))

noncomputable def number_Rank (a0 : Nat) : Option (Int) :=
  ((math_IsNaN a0).bind fun t43 => (bif t43 then (some (18446744073709551615:Int)) else (bif ((iShr .u64 (Int.ofNat a0) (63:Int)) == (1:Int)) then (some (bXor .u64 ((18446744073709551615):Int) (Int.ofNat a0))) else (some (bOr .u64 (Int.ofNat a0) (9223372036854775808:Int))))))

noncomputable def number_Less (a0 : Nat) (a1 : Nat) : Option (Bool) :=
  ((number_Rank a0).bind fun t46 => ((number_Rank a1).bind fun t51 => (some (decide (t46 < t51)))))

noncomputable def number_Rising_l0 (a0 : (List Nat)) (z132 : (Int)) : Option ((Int) ⊕ (Bool)) :=
  (bif (decide (z132 < ((a0).length : Int))) then ((geto a0 (IntKind.i64.wrap (z132 - (1:Int)))).bind fun x142 => ((geto a0 z132).bind fun x147 => ((number_Less x142 x147).bind fun t152 => (bif (!t152) then (inrO (some false)) else (some (Sum.inl (IntKind.i64.wrap (z132 + (1:Int))))))))) else (inrO (some true)))
noncomputable def number_Rising (a0 : (List Nat)) : Option (Bool) :=
  (loopO (number_Rising_l0 a0) (1:Int))

noncomputable def slices_Clone_uint64_uint64 (a0 : (List Int)) : Option ((List Int)) :=
  gd (room ([] : (List Int)) a0) (some a0)

noncomputable def label_Lattice_orders_l1 (o0 : label_Lattice) (x1060 : Int) (z1050 : Int) (z1093 : (Int)) : Option ((Int) ⊕ ((Int) ⊕ (Bool))) :=
  (bif (decide (z1093 < ((o0.up).length : Int))) then (gd (decide ((0:Int) ≤ z1093)) (bif ((bAnd .u64 (iShr .u64 x1060 z1093) (1:Int)) == (1:Int)) then ((geto o0.up z1093).bind fun x1105 => (bif ((bAndNot .u64 x1105 x1060) != (0:Int)) then (inrO (inrO (some false))) else (bif (z1050 != z1093) then (gd (decide ((0:Int) ≤ z1050)) (bif ((bAnd .u64 (iShr .u64 x1105 z1050) (1:Int)) == (1:Int)) then (inrO (inrO (some false))) else (some (Sum.inl (IntKind.i64.wrap (z1093 + (1:Int))))))) else (some (Sum.inl (IntKind.i64.wrap (z1093 + (1:Int)))))))) else (some (Sum.inl (IntKind.i64.wrap (z1093 + (1:Int))))))) else (inrO (some (Sum.inl (IntKind.i64.wrap (z1050 + (1:Int)))))))
noncomputable def label_Lattice_orders_l0 (o0 : label_Lattice) (z1050 : (Int)) : Option ((Int) ⊕ (Bool)) :=
  (bif (decide (z1050 < ((o0.up).length : Int))) then ((geto o0.up z1050).bind fun x1060 => (gd (decide ((0:Int) ≤ ((o0.up).length : Int))) (bif ((iShr .u64 x1060 ((o0.up).length : Int)) != (0:Int)) then (inrO (some false)) else (gd (decide ((0:Int) ≤ z1050)) (bif ((bAnd .u64 (iShr .u64 x1060 z1050) (1:Int)) == (0:Int)) then (inrO (some false)) else (loopO (label_Lattice_orders_l1 o0 x1060 z1050) (0:Int))))))) else (inrO (some true)))
noncomputable def label_Lattice_orders (a0 : (Option label_Lattice)) : Option (Bool) :=
  (match a0 with | none => none | some o0 => (loopO (label_Lattice_orders_l0 o0) (0:Int)))

noncomputable def label_least_l0 (a1 : (List Int)) (a0 : Int) (z1122 : (Int)) : Option ((Int) ⊕ (Int × Bool)) :=
  (bif (decide (z1122 < ((a1).length : Int))) then (gd (decide ((0:Int) ≤ z1122)) (bif ((bAnd .u64 (iShr .u64 a0 z1122) (1:Int)) == (1:Int)) then ((geto a1 z1122).bind fun x1134 => (bif ((bAndNot .u64 a0 x1134) == (0:Int)) then (inrO (some (z1122, true))) else (some (Sum.inl (IntKind.i64.wrap (z1122 + (1:Int))))))) else (some (Sum.inl (IntKind.i64.wrap (z1122 + (1:Int))))))) else (inrO (some ((0:Int), false))))
noncomputable def label_least (a0 : Int) (a1 : (List Int)) : Option (Int × Bool) :=
  (loopO (label_least_l0 a1 a0) (0:Int))

noncomputable def math_bits_OnesCount64 (a0 : Int) : Option (Int) :=
  (some (bAnd .i64 (IntKind.i64.wrap (IntKind.u64.wrap ((IntKind.u64.wrap ((IntKind.u64.wrap ((bAnd .u64 (IntKind.u64.wrap ((iShr .u64 (IntKind.u64.wrap ((bAnd .u64 (iShr .u64 (IntKind.u64.wrap ((bAnd .u64 (iShr .u64 a0 (1:Int)) (6148914691236517205:Int)) + (bAnd .u64 a0 (6148914691236517205:Int)))) (2:Int)) (3689348814741910323:Int)) + (bAnd .u64 (IntKind.u64.wrap ((bAnd .u64 (iShr .u64 a0 (1:Int)) (6148914691236517205:Int)) + (bAnd .u64 a0 (6148914691236517205:Int)))) (3689348814741910323:Int)))) (4:Int)) + (IntKind.u64.wrap ((bAnd .u64 (iShr .u64 (IntKind.u64.wrap ((bAnd .u64 (iShr .u64 a0 (1:Int)) (6148914691236517205:Int)) + (bAnd .u64 a0 (6148914691236517205:Int)))) (2:Int)) (3689348814741910323:Int)) + (bAnd .u64 (IntKind.u64.wrap ((bAnd .u64 (iShr .u64 a0 (1:Int)) (6148914691236517205:Int)) + (bAnd .u64 a0 (6148914691236517205:Int)))) (3689348814741910323:Int)))))) (1085102592571150095:Int)) + (iShr .u64 (bAnd .u64 (IntKind.u64.wrap ((iShr .u64 (IntKind.u64.wrap ((bAnd .u64 (iShr .u64 (IntKind.u64.wrap ((bAnd .u64 (iShr .u64 a0 (1:Int)) (6148914691236517205:Int)) + (bAnd .u64 a0 (6148914691236517205:Int)))) (2:Int)) (3689348814741910323:Int)) + (bAnd .u64 (IntKind.u64.wrap ((bAnd .u64 (iShr .u64 a0 (1:Int)) (6148914691236517205:Int)) + (bAnd .u64 a0 (6148914691236517205:Int)))) (3689348814741910323:Int)))) (4:Int)) + (IntKind.u64.wrap ((bAnd .u64 (iShr .u64 (IntKind.u64.wrap ((bAnd .u64 (iShr .u64 a0 (1:Int)) (6148914691236517205:Int)) + (bAnd .u64 a0 (6148914691236517205:Int)))) (2:Int)) (3689348814741910323:Int)) + (bAnd .u64 (IntKind.u64.wrap ((bAnd .u64 (iShr .u64 a0 (1:Int)) (6148914691236517205:Int)) + (bAnd .u64 a0 (6148914691236517205:Int)))) (3689348814741910323:Int)))))) (1085102592571150095:Int)) (8:Int)))) + (iShr .u64 (IntKind.u64.wrap ((bAnd .u64 (IntKind.u64.wrap ((iShr .u64 (IntKind.u64.wrap ((bAnd .u64 (iShr .u64 (IntKind.u64.wrap ((bAnd .u64 (iShr .u64 a0 (1:Int)) (6148914691236517205:Int)) + (bAnd .u64 a0 (6148914691236517205:Int)))) (2:Int)) (3689348814741910323:Int)) + (bAnd .u64 (IntKind.u64.wrap ((bAnd .u64 (iShr .u64 a0 (1:Int)) (6148914691236517205:Int)) + (bAnd .u64 a0 (6148914691236517205:Int)))) (3689348814741910323:Int)))) (4:Int)) + (IntKind.u64.wrap ((bAnd .u64 (iShr .u64 (IntKind.u64.wrap ((bAnd .u64 (iShr .u64 a0 (1:Int)) (6148914691236517205:Int)) + (bAnd .u64 a0 (6148914691236517205:Int)))) (2:Int)) (3689348814741910323:Int)) + (bAnd .u64 (IntKind.u64.wrap ((bAnd .u64 (iShr .u64 a0 (1:Int)) (6148914691236517205:Int)) + (bAnd .u64 a0 (6148914691236517205:Int)))) (3689348814741910323:Int)))))) (1085102592571150095:Int)) + (iShr .u64 (bAnd .u64 (IntKind.u64.wrap ((iShr .u64 (IntKind.u64.wrap ((bAnd .u64 (iShr .u64 (IntKind.u64.wrap ((bAnd .u64 (iShr .u64 a0 (1:Int)) (6148914691236517205:Int)) + (bAnd .u64 a0 (6148914691236517205:Int)))) (2:Int)) (3689348814741910323:Int)) + (bAnd .u64 (IntKind.u64.wrap ((bAnd .u64 (iShr .u64 a0 (1:Int)) (6148914691236517205:Int)) + (bAnd .u64 a0 (6148914691236517205:Int)))) (3689348814741910323:Int)))) (4:Int)) + (IntKind.u64.wrap ((bAnd .u64 (iShr .u64 (IntKind.u64.wrap ((bAnd .u64 (iShr .u64 a0 (1:Int)) (6148914691236517205:Int)) + (bAnd .u64 a0 (6148914691236517205:Int)))) (2:Int)) (3689348814741910323:Int)) + (bAnd .u64 (IntKind.u64.wrap ((bAnd .u64 (iShr .u64 a0 (1:Int)) (6148914691236517205:Int)) + (bAnd .u64 a0 (6148914691236517205:Int)))) (3689348814741910323:Int)))))) (1085102592571150095:Int)) (8:Int)))) (16:Int)))) + (iShr .u64 (IntKind.u64.wrap ((IntKind.u64.wrap ((bAnd .u64 (IntKind.u64.wrap ((iShr .u64 (IntKind.u64.wrap ((bAnd .u64 (iShr .u64 (IntKind.u64.wrap ((bAnd .u64 (iShr .u64 a0 (1:Int)) (6148914691236517205:Int)) + (bAnd .u64 a0 (6148914691236517205:Int)))) (2:Int)) (3689348814741910323:Int)) + (bAnd .u64 (IntKind.u64.wrap ((bAnd .u64 (iShr .u64 a0 (1:Int)) (6148914691236517205:Int)) + (bAnd .u64 a0 (6148914691236517205:Int)))) (3689348814741910323:Int)))) (4:Int)) + (IntKind.u64.wrap ((bAnd .u64 (iShr .u64 (IntKind.u64.wrap ((bAnd .u64 (iShr .u64 a0 (1:Int)) (6148914691236517205:Int)) + (bAnd .u64 a0 (6148914691236517205:Int)))) (2:Int)) (3689348814741910323:Int)) + (bAnd .u64 (IntKind.u64.wrap ((bAnd .u64 (iShr .u64 a0 (1:Int)) (6148914691236517205:Int)) + (bAnd .u64 a0 (6148914691236517205:Int)))) (3689348814741910323:Int)))))) (1085102592571150095:Int)) + (iShr .u64 (bAnd .u64 (IntKind.u64.wrap ((iShr .u64 (IntKind.u64.wrap ((bAnd .u64 (iShr .u64 (IntKind.u64.wrap ((bAnd .u64 (iShr .u64 a0 (1:Int)) (6148914691236517205:Int)) + (bAnd .u64 a0 (6148914691236517205:Int)))) (2:Int)) (3689348814741910323:Int)) + (bAnd .u64 (IntKind.u64.wrap ((bAnd .u64 (iShr .u64 a0 (1:Int)) (6148914691236517205:Int)) + (bAnd .u64 a0 (6148914691236517205:Int)))) (3689348814741910323:Int)))) (4:Int)) + (IntKind.u64.wrap ((bAnd .u64 (iShr .u64 (IntKind.u64.wrap ((bAnd .u64 (iShr .u64 a0 (1:Int)) (6148914691236517205:Int)) + (bAnd .u64 a0 (6148914691236517205:Int)))) (2:Int)) (3689348814741910323:Int)) + (bAnd .u64 (IntKind.u64.wrap ((bAnd .u64 (iShr .u64 a0 (1:Int)) (6148914691236517205:Int)) + (bAnd .u64 a0 (6148914691236517205:Int)))) (3689348814741910323:Int)))))) (1085102592571150095:Int)) (8:Int)))) + (iShr .u64 (IntKind.u64.wrap ((bAnd .u64 (IntKind.u64.wrap ((iShr .u64 (IntKind.u64.wrap ((bAnd .u64 (iShr .u64 (IntKind.u64.wrap ((bAnd .u64 (iShr .u64 a0 (1:Int)) (6148914691236517205:Int)) + (bAnd .u64 a0 (6148914691236517205:Int)))) (2:Int)) (3689348814741910323:Int)) + (bAnd .u64 (IntKind.u64.wrap ((bAnd .u64 (iShr .u64 a0 (1:Int)) (6148914691236517205:Int)) + (bAnd .u64 a0 (6148914691236517205:Int)))) (3689348814741910323:Int)))) (4:Int)) + (IntKind.u64.wrap ((bAnd .u64 (iShr .u64 (IntKind.u64.wrap ((bAnd .u64 (iShr .u64 a0 (1:Int)) (6148914691236517205:Int)) + (bAnd .u64 a0 (6148914691236517205:Int)))) (2:Int)) (3689348814741910323:Int)) + (bAnd .u64 (IntKind.u64.wrap ((bAnd .u64 (iShr .u64 a0 (1:Int)) (6148914691236517205:Int)) + (bAnd .u64 a0 (6148914691236517205:Int)))) (3689348814741910323:Int)))))) (1085102592571150095:Int)) + (iShr .u64 (bAnd .u64 (IntKind.u64.wrap ((iShr .u64 (IntKind.u64.wrap ((bAnd .u64 (iShr .u64 (IntKind.u64.wrap ((bAnd .u64 (iShr .u64 a0 (1:Int)) (6148914691236517205:Int)) + (bAnd .u64 a0 (6148914691236517205:Int)))) (2:Int)) (3689348814741910323:Int)) + (bAnd .u64 (IntKind.u64.wrap ((bAnd .u64 (iShr .u64 a0 (1:Int)) (6148914691236517205:Int)) + (bAnd .u64 a0 (6148914691236517205:Int)))) (3689348814741910323:Int)))) (4:Int)) + (IntKind.u64.wrap ((bAnd .u64 (iShr .u64 (IntKind.u64.wrap ((bAnd .u64 (iShr .u64 a0 (1:Int)) (6148914691236517205:Int)) + (bAnd .u64 a0 (6148914691236517205:Int)))) (2:Int)) (3689348814741910323:Int)) + (bAnd .u64 (IntKind.u64.wrap ((bAnd .u64 (iShr .u64 a0 (1:Int)) (6148914691236517205:Int)) + (bAnd .u64 a0 (6148914691236517205:Int)))) (3689348814741910323:Int)))))) (1085102592571150095:Int)) (8:Int)))) (16:Int)))) (32:Int))))) (127:Int)))

noncomputable def cmp_isNaN_int (a0 : Int) : Option (Bool) :=
  (some (a0 != a0))

noncomputable def cmp_Compare_int (a0 : Int) (a1 : Int) : Option (Int) :=
  ((cmp_isNaN_int a0).bind fun t2450 => ((cmp_isNaN_int a1).bind fun t2455 => (bif t2450 then (bif t2455 then (some (0:Int)) else (some ((-1):Int))) else (bif t2455 then (some (1:Int)) else (bif (decide (a0 < a1)) then (some ((-1):Int)) else (bif (decide (a0 > a1)) then (some (1:Int)) else (some (0:Int))))))))

noncomputable def label_New_l3 (a0 : (List Int)) (x5675 : Int) (z5665 : Int) (s : (label_Lattice × Int)) : Option ((label_Lattice × Int) ⊕ ((label_Lattice × Int) ⊕ (label_Lattice))) :=
  match s with | (z5733, z5734) => (bif (decide (z5734 < ((a0).length : Int))) then (gd (decide ((0:Int) ≤ z5734)) (bif ((bAnd .u64 (iShr .u64 x5675 z5734) (1:Int)) == (1:Int)) then ((geto z5733.down z5734).bind fun x5759 => (gd (decide ((0:Int) ≤ z5665)) (some (Sum.inl (({ up := z5733.up, down := (z5733.down.set z5734.toNat (bOr .u64 x5759 (iShl .u64 (1:Int) z5665))), join := z5733.join, meet := z5733.meet, rank := z5733.rank, all := z5733.all } : label_Lattice), (IntKind.i64.wrap (z5734 + (1:Int)))))))) else (some (Sum.inl (z5733, (IntKind.i64.wrap (z5734 + (1:Int)))))))) else (inrO (some (Sum.inl (z5733, (IntKind.i64.wrap (z5665 + (1:Int))))))))
noncomputable def label_New_l2 (a0 : (List Int)) (s : (label_Lattice × Int)) : Option ((label_Lattice × Int) ⊕ (label_Lattice)) :=
  match s with | (z5664, z5665) => (bif (decide (z5665 < ((a0).length : Int))) then ((geto a0 z5665).bind fun x5675 => (loopO (label_New_l3 a0 x5675 z5665) (z5664, (0:Int)))) else (inrO (some z5664)))
noncomputable def label_New_l7 (a0 : (List Int)) (z6653 : label_Lattice) (z6654 : Int) (s : ((List Int) × (List Int) × Int)) : Option (((List Int) × (List Int) × Int) ⊕ (((List Int) × (List Int)) ⊕ ((label_Lattice × Int) ⊕ ((label_Lattice) ⊕ (Option label_Lattice × Int))))) :=
  match s with | (z6884, z6887, z6890) => (bif (decide (z6890 < ((a0).length : Int))) then ((geto z6653.up z6654).bind fun x6913 => ((geto z6653.up z6890).bind fun x6918 => ((label_least (bAnd .u64 x6913 x6918) z6653.up).bind fun t6925 => ((geto z6653.down z6654).bind fun x6930 => ((geto z6653.down z6890).bind fun x6935 => ((label_least (bAnd .u64 x6930 x6935) z6653.down).bind fun t6942 => (bif (!t6925.2) then (inrO (inrO (inrO (inrO (some (none, (15:Int))))))) else (bif (!t6942.2) then (inrO (inrO (inrO (inrO (some (none, (15:Int))))))) else (gd (room z6884 ([t6925.1])) (gd (room z6887 ([t6942.1])) (some (Sum.inl ((z6884 ++ ([t6925.1])), (z6887 ++ ([t6942.1])), (IntKind.i64.wrap (z6890 + (1:Int)))))))))))))))) else (inrO (some (Sum.inl (z6884, z6887)))))
noncomputable def label_New_j8 (z6653 : label_Lattice) (z6971 : (List Int)) (z6974 : (List Int)) (z6654 : Int) (_s : Unit) : Option ((label_Lattice × Int) ⊕ ((label_Lattice) ⊕ (Option label_Lattice × Int))) :=
  (gd (room (({ up := z6653.up, down := z6653.down, join := (z6653.join ++ ([z6971])), meet := (z6653.meet ++ ([z6974])), rank := z6653.rank, all := z6653.all } : label_Lattice).all) ([z6654])) (some (Sum.inl (({ up := ({ up := z6653.up, down := z6653.down, join := (z6653.join ++ ([z6971])), meet := (z6653.meet ++ ([z6974])), rank := z6653.rank, all := z6653.all } : label_Lattice).up, down := ({ up := z6653.up, down := z6653.down, join := (z6653.join ++ ([z6971])), meet := (z6653.meet ++ ([z6974])), rank := z6653.rank, all := z6653.all } : label_Lattice).down, join := ({ up := z6653.up, down := z6653.down, join := (z6653.join ++ ([z6971])), meet := (z6653.meet ++ ([z6974])), rank := z6653.rank, all := z6653.all } : label_Lattice).join, meet := ({ up := z6653.up, down := z6653.down, join := (z6653.join ++ ([z6971])), meet := (z6653.meet ++ ([z6974])), rank := z6653.rank, all := z6653.all } : label_Lattice).meet, rank := ({ up := z6653.up, down := z6653.down, join := (z6653.join ++ ([z6971])), meet := (z6653.meet ++ ([z6974])), rank := z6653.rank, all := z6653.all } : label_Lattice).rank, all := ((({ up := z6653.up, down := z6653.down, join := (z6653.join ++ ([z6971])), meet := (z6653.meet ++ ([z6974])), rank := z6653.rank, all := z6653.all } : label_Lattice).all) ++ ([z6654])) } : label_Lattice), (IntKind.i64.wrap (z6654 + (1:Int)))))))
noncomputable def label_New_j6 (z6653 : label_Lattice) (z6654 : Int) (s : ((List Int) × (List Int))) : Option ((label_Lattice × Int) ⊕ ((label_Lattice) ⊕ (Option label_Lattice × Int))) :=
  match s with | (z6971, z6974) => (((gd (room z6653.join ([z6971])) (gd (room z6653.meet ([z6974])) (some ())))).bind (label_New_j8 z6653 z6971 z6974 z6654))
noncomputable def label_New_l5 (a0 : (List Int)) (s : (label_Lattice × Int)) : Option ((label_Lattice × Int) ⊕ ((label_Lattice) ⊕ (Option label_Lattice × Int))) :=
  match s with | (z6653, z6654) => (bif (decide (z6654 < ((a0).length : Int))) then (joinO (loopO (label_New_l7 a0 z6653 z6654) ([], [], (0:Int))) (label_New_j6 z6653 z6654)) else (inrO (some (Sum.inl z6653))))
noncomputable def label_New_l12 (z8241 : Int) (z7113 : label_Lattice) (z8611 : Int) (s : (Int × (List Int))) : Option ((Int × (List Int)) ⊕ ((Int × (List Int)) ⊕ ((List Int)))) :=
  match s with | (z8734, z8735) => (bif (decide (z8734 > z8241)) then ((geto z8735 z8734).bind fun x8745 => ((geto z8735 (IntKind.i64.wrap (z8734 - (1:Int)))).bind fun x8750 => (((geto z7113.down x8745).bind fun x8755 => ((geto z7113.down x8750).bind fun x8760 => ((math_bits_OnesCount64 x8755).bind fun t8765 => ((math_bits_OnesCount64 x8760).bind fun t8770 => ((cmp_Compare_int t8765 t8770).bind fun t8775 => (some t8775)))))).bind fun z8780 => (bif (decide (z8780 < (0:Int))) then ((geto (z8735.set z8734.toNat x8750) (IntKind.i64.wrap (z8734 - (1:Int)))).bind fun x8790 => (some (Sum.inl ((IntKind.i64.wrap (z8734 - (1:Int))), ((z8735.set z8734.toNat x8750).set (IntKind.i64.wrap (z8734 - (1:Int))).toNat x8745))))) else (inrO (some (Sum.inl ((IntKind.i64.wrap (z8611 + (1:Int))), z8735)))))))) else (inrO (some (Sum.inl ((IntKind.i64.wrap (z8611 + (1:Int))), z8735)))))
noncomputable def label_New_l11 (z8242 : Int) (z8241 : Int) (z7113 : label_Lattice) (s : (Int × (List Int))) : Option ((Int × (List Int)) ⊕ ((List Int))) :=
  match s with | (z8611, z8612) => (bif (decide (z8611 < z8242)) then (loopO (label_New_l12 z8241 z7113 z8611) (z8611, z8612)) else (inrO (some z8612)))
noncomputable def label_New_l10 (z7113 : label_Lattice) (s : (Int × Int × (List Int))) : Option ((Int × Int × (List Int)) ⊕ ((List Int) × Int)) :=
  match s with | (z8241, z8242, z8243) => (bif (decide (z8242 ≤ ((z7113.all).length : Int))) then ((loopO (label_New_l11 z8242 z8241 z7113) ((IntKind.i64.wrap (z8241 + (1:Int))), z8243)).bind fun z8799 => (some (Sum.inl (z8242, (IntKind.i64.wrap (z8242 + (20:Int))), z8799)))) else (inrO (some (z8243, z8241))))
noncomputable def label_New_l14 (z8805 : Int) (z7113 : label_Lattice) (z9169 : Int) (s : (Int × (List Int))) : Option ((Int × (List Int)) ⊕ ((Int × (List Int)) ⊕ ((List Int)))) :=
  match s with | (z9292, z9293) => (bif (decide (z9292 > z8805)) then ((geto z9293 z9292).bind fun x9303 => ((geto z9293 (IntKind.i64.wrap (z9292 - (1:Int)))).bind fun x9308 => (((geto z7113.down x9303).bind fun x9313 => ((geto z7113.down x9308).bind fun x9318 => ((math_bits_OnesCount64 x9313).bind fun t9323 => ((math_bits_OnesCount64 x9318).bind fun t9328 => ((cmp_Compare_int t9323 t9328).bind fun t9333 => (some t9333)))))).bind fun z9338 => (bif (decide (z9338 < (0:Int))) then ((geto (z9293.set z9292.toNat x9308) (IntKind.i64.wrap (z9292 - (1:Int)))).bind fun x9348 => (some (Sum.inl ((IntKind.i64.wrap (z9292 - (1:Int))), ((z9293.set z9292.toNat x9308).set (IntKind.i64.wrap (z9292 - (1:Int))).toNat x9303))))) else (inrO (some (Sum.inl ((IntKind.i64.wrap (z9169 + (1:Int))), z9293)))))))) else (inrO (some (Sum.inl ((IntKind.i64.wrap (z9169 + (1:Int))), z9293)))))
noncomputable def label_New_l13 (z7113 : label_Lattice) (z8805 : Int) (s : (Int × (List Int))) : Option ((Int × (List Int)) ⊕ ((List Int))) :=
  match s with | (z9169, z9170) => (bif (decide (z9169 < ((z7113.all).length : Int))) then (loopO (label_New_l14 z8805 z7113 z9169) (z9169, z9170)) else (inrO (some z9170)))
noncomputable def label_New_l17 (z9397 : Int) (z7113 : label_Lattice) (_s : Unit) : Option (Unit ⊕ Unit) :=
  (bif (decide ((IntKind.i64.wrap ((2:Int) * z9397)) ≤ ((z7113.all).length : Int))) then none else (inrO (some ())))
noncomputable def label_New_j16 (z9397 : Int) (z7113 : label_Lattice) (_s : Unit) : Option ((Int) ⊕ ((List Int))) :=
  (bif (decide ((IntKind.i64.wrap ((0:Int) + z9397)) < ((z7113.all).length : Int))) then none else (some (Sum.inl (IntKind.i64.wrap (z9397 * (2:Int))))))
noncomputable def label_New_l15 (z7113 : label_Lattice) (z9357 : (List Int)) (z9397 : (Int)) : Option ((Int) ⊕ ((List Int))) :=
  (bif (decide (z9397 < ((z7113.all).length : Int))) then (((loopO (label_New_l17 z9397 z7113) ())).bind (label_New_j16 z9397 z7113)) else (inrO (some z9357)))
noncomputable def label_New_j9 (z7113 : label_Lattice) (s : ((List Int) × Int)) : Option ((List Int)) :=
  match s with | (z8804, z8805) => ((loopO (label_New_l13 z7113 z8805) ((IntKind.i64.wrap (z8805 + (1:Int))), z8804)).bind fun z9357 => (loopO (label_New_l15 z7113 z9357) (20:Int)))
noncomputable def label_New_l18 (z9428 : (List Int)) (z7113 : label_Lattice) (s : (Int × (List Int))) : Option ((Int × (List Int)) ⊕ (Option label_Lattice × Int)) :=
  match s with | (z9465, z9466) => (bif (decide (z9465 < ((z9428).length : Int))) then ((geto z9428 z9465).bind fun x9476 => ((geto z9466 x9476).bind fun x9481 => (some (Sum.inl ((IntKind.i64.wrap (z9465 + (1:Int))), (z9466.set x9476.toNat z9465)))))) else (inrO (some ((some ({ up := z7113.up, down := z7113.down, join := z7113.join, meet := z7113.meet, rank := z9466, all := z9428 } : label_Lattice)), (0:Int)))))
noncomputable def label_New_j4 (z7113 : (label_Lattice)) : Option (Option label_Lattice × Int) :=
  (((((loopO (label_New_l10 z7113) ((0:Int), (20:Int), z7113.all))).bind (label_New_j9 z7113)).bind fun z9423 => (some z9423)).bind fun z9428 => (loopO (label_New_l18 z9428 z7113) ((0:Int), z7113.rank)))
noncomputable def label_New_j1 (a0 : (List Int)) (z5769 : (label_Lattice)) : Option (Option label_Lattice × Int) :=
  (joinO (loopO (label_New_l5 a0) (z5769, (0:Int))) (label_New_j4))
noncomputable def label_New_j0 (a0 : (List Int)) (z5463 : (label_Lattice)) : Option (Option label_Lattice × Int) :=
  ((label_Lattice_orders (some z5463)).bind fun t5469 => (bif (!t5469) then (some (none, (15:Int))) else (((loopO (label_New_l2 a0) (z5463, (0:Int)))).bind (label_New_j1 a0))))
noncomputable def label_New (a0 : (List Int)) : Option (Option label_Lattice × Int) :=
  (bif (decide (((a0).length : Int) < (1:Int))) then (some (none, (1:Int))) else (bif (decide (((a0).length : Int) > (16:Int))) then (some (none, (1:Int))) else ((((slices_Clone_uint64_uint64 a0).bind fun t4783 => (gd (mkOK ((a0).length : Int) ((a0).length : Int)) (gd (mkOK ((a0).length : Int) ((a0).length : Int)) (some ({ up := t4783, down := (List.replicate (Int.toNat ((a0).length : Int)) (0:Int)), join := [], meet := [], rank := (List.replicate (Int.toNat ((a0).length : Int)) (0:Int)), all := [] } : label_Lattice)))))).bind (label_New_j0 a0))))

noncomputable def config_New_j2 (a0 : api_Config) (z121 : (Bool)) : Option (Option config_Plan × Int) :=
  (bif z121 then (some (none, (1:Int))) else (bif (decide (a0.Beat < (1:Int))) then (some (none, (1:Int))) else (bif (decide (a0.Elect ≤ a0.Beat)) then (some (none, (1:Int))) else (bif (decide (a0.Elect > (1000:Int))) then (some (none, (1:Int))) else ((label_New a0.Up).bind fun t135 => (bif (t135.2 != (0:Int)) then (some (none, t135.2)) else (some ((some ({ C := a0, L := t135.1 } : config_Plan)), (0:Int)))))))))
noncomputable def config_New_j1 (a0 : api_Config) (z110 : (Bool)) : Option (Option config_Plan × Int) :=
  (bif z110 then (some (none, (1:Int))) else (((bif (decide (a0.Quota < (1:Int))) then (some true) else (bif (decide (a0.Quota > (268435456:Int))) then (some (decide (a0.Quota > (268435456:Int)))) else (bif (decide (a0.Wide < (0:Int))) then (some true) else (some (decide (a0.Wide > (256:Int)))))))).bind (config_New_j2 a0)))
noncomputable def config_New_j0 (a0 : api_Config) (z99 : (Bool)) : Option (Option config_Plan × Int) :=
  (bif z99 then (some (none, (1:Int))) else (((bif (decide (a0.Frame < (64:Int))) then (some true) else (bif (decide (a0.Frame > (4096:Int))) then (some (decide (a0.Frame > (4096:Int)))) else (bif (decide (a0.Depth < (1:Int))) then (some true) else (some (decide (a0.Depth > (65536:Int)))))))).bind (config_New_j1 a0)))
noncomputable def config_New (a0 : api_Config) : Option (Option config_Plan × Int) :=
  (((bif (decide (a0.Nodes < (1:Int))) then (some true) else (bif (decide (a0.Nodes > (7:Int))) then (some (decide (a0.Nodes > (7:Int)))) else (bif (decide (((a0.Cuts).length : Int) ≥ (8:Int))) then (some (decide (((a0.Cuts).length : Int) ≥ (8:Int)))) else ((number_Rising a0.Cuts).bind fun t94 => (some (!t94))))))).bind (config_New_j0 a0))

noncomputable def math_Signbit (a0 : Nat) : Option (Bool) :=
  (some (decide ((IntKind.i64.wrap (Int.ofNat a0)) < (0:Int))))

noncomputable def ref01_Ahead_j0 (a0 : Nat) (a1 : Nat) (_s : Unit) : Option (Bool) :=
  (some (fLt a0 a1))
noncomputable def ref01_Ahead (a0 : Nat) (a1 : Nat) : Option (Bool) :=
  (bif (fNe a0 a0) then (some false) else (bif (fNe a1 a1) then (some true) else (joinO (bif (fEq a0 (0:Nat)) then (bif (fEq a1 (0:Nat)) then ((math_Signbit a0).bind fun t66 => (bif t66 then ((math_Signbit a1).bind fun t72 => (inrO (some (!t72)))) else (inrO (some false)))) else (some (Sum.inl ()))) else (some (Sum.inl ()))) (ref01_Ahead_j0 a0 a1))))

noncomputable def label_Lattice_Len (a0 : (Option label_Lattice)) : Option (Int) :=
  (match a0 with | none => (some (0:Int)) | some o0 => (some ((o0.up).length : Int)))

noncomputable def config_Plan_L0 (a0 : (Option config_Plan)) : Option (Int) :=
  (match a0 with | none => (some (0:Int)) | some o0 => ((label_Lattice_Len o0.L).bind fun t120 => (some t120)))

noncomputable def config_Plan_Shards (a0 : (Option config_Plan)) : Option (Int) :=
  (match a0 with | none => (some (0:Int)) | some o0 => (some (IntKind.i64.wrap (((o0.C.Cuts).length : Int) + (1:Int)))))

noncomputable def config_Plan_Lanes (a0 : (Option config_Plan)) : Option (Int) :=
  ((config_Plan_L0 a0).bind fun t106 => ((config_Plan_Shards a0).bind fun t111 => (some (IntKind.i64.wrap ((IntKind.i64.wrap (t106 * t111)) + (1:Int))))))

noncomputable def config_Plan_Lane (a0 : (Option config_Plan)) (a1 : Int) (a2 : Int) : Option (Int) :=
  (bif (decide (a1 < (0:Int))) then (some ((-1):Int)) else ((config_Plan_L0 a0).bind fun t122 => (bif (decide (a1 ≥ t122)) then (some ((-1):Int)) else (bif (decide (a2 < (0:Int))) then (some ((-1):Int)) else ((config_Plan_Shards a0).bind fun t129 => (bif (decide (a2 ≥ t129)) then (some ((-1):Int)) else ((config_Plan_Shards a0).bind fun t135 => (some (IntKind.i64.wrap ((IntKind.i64.wrap (a1 * t135)) + a2))))))))))

noncomputable def config_Plan_Rules (a0 : (Option config_Plan)) : Option (Int) :=
  ((config_Plan_Lanes a0).bind fun t113 => (some (IntKind.i64.wrap (t113 - (1:Int)))))

noncomputable def label_Lattice_Bottom (a0 : (Option label_Lattice)) : Option (Int) :=
  (match a0 with | none => (some ((-1):Int)) | some o0 => ((geto o0.all (0:Int)).bind fun x178 => (some x178)))

noncomputable def config_Plan_Label (a0 : (Option config_Plan)) (a1 : Int) : Option (Int) :=
  (match a0 with | none => (some ((-1):Int)) | some o0 => (bif (decide (a1 < (0:Int))) then (some ((-1):Int)) else ((config_Plan_Lanes (some o0)).bind fun t167 => (bif (decide (a1 ≥ t167)) then (some ((-1):Int)) else ((config_Plan_Rules (some o0)).bind fun t173 => (bif (a1 == t173) then ((label_Lattice_Bottom o0.L).bind fun t189 => (some t189)) else ((config_Plan_Shards (some o0)).bind fun t194 => (gd (!(t194 == (0:Int))) (some (IntKind.i64.wrap (Int.tdiv a1 t194)))))))))))

noncomputable def law04_awake : Option (Bool) :=
  ((ref04_Small (0:Int)).bind fun t117 => ((config_New ({ Up := t117.Up, Nodes := t117.Nodes, Cuts := [(0:Nat)], Frame := t117.Frame, Depth := t117.Depth, Quota := t117.Quota, Wide := t117.Wide, Beat := t117.Beat, Elect := t117.Elect } : api_Config)).bind fun t148 => (bif (t148.2 == (0:Int)) then ((config_Plan_Lanes t148.1).bind fun t156 => (bif (t156 == (5:Int)) then ((config_Plan_Lane t148.1 (1:Int) (1:Int)).bind fun t162 => (bif (t162 == (3:Int)) then ((config_Plan_Rules t148.1).bind fun t168 => (bif (t168 == (4:Int)) then ((config_Plan_Label t148.1 (2:Int)).bind fun t174 => (some (t174 == (1:Int)))) else (some false))) else (some false))) else (some false))) else (some false))))

noncomputable def label_Lattice_Is (a0 : (Option label_Lattice)) (a1 : Int) : Option (Bool) :=
  (bif (decide (a1 ≥ (0:Int))) then ((label_Lattice_Len a0).bind fun t76 => (some (decide (a1 < t76)))) else (some false))

noncomputable def config_Plan_Rule (a0 : (Option config_Plan)) (a1 : api_Rule) : Option (Bool) :=
  (match a0 with | none => (some false) | some o0 => ((label_Lattice_Is o0.L a1.From).bind fun t121 => (bif t121 then ((label_Lattice_Is o0.L a1.To).bind fun t127 => (bif t127 then (bif (a1.From != a1.To) then ((number_Less a1.Hi a1.Lo).bind fun t134 => (bif (!t134) then (bif (decide (a1.Quota ≥ (0:Int))) then (some (decide (a1.Quota ≤ (65536:Int)))) else (some false)) else (some false))) else (some false)) else (some false))) else (some false))))

noncomputable def law04_ConfigRules_j0 (t95 : (Option config_Plan × Int)) (a1 : api_Rule) (z114 : (Bool)) : Option (Bool) :=
  (law04_awake.bind fun t120 => (bif t120 then ((config_Plan_Rule t95.1 a1).bind fun t126 => (some (t126 == z114))) else (some false)))
noncomputable def law04_ConfigRules (a0 : Int) (a1 : api_Rule) : Option (Bool) :=
  ((ref04_Small a0).bind fun t71 => ((config_New t71).bind fun t95 => (((bif (decide (a1.From ≥ (0:Int))) then (bif (decide (a1.From < ((t71.Up).length : Int))) then (bif (decide (a1.To ≥ (0:Int))) then (bif (decide (a1.To < ((t71.Up).length : Int))) then (bif (a1.From != a1.To) then ((ref01_Ahead a1.Hi a1.Lo).bind fun t107 => (bif (!t107) then (bif (decide (a1.Quota ≥ (0:Int))) then (some (decide (a1.Quota ≤ (65536:Int)))) else (some false)) else (some false))) else (some false)) else (some false)) else (some false)) else (some false)) else (some false))).bind (law04_ConfigRules_j0 t95 a1))))

noncomputable def config_Most (a0 : Int) (a1 : Int) : Option (Bool) :=
  ((math_bits_OnesCount64 (bAnd .u64 a0 a1)).bind fun t51 => ((math_bits_OnesCount64 a1).bind fun t56 => (some (decide ((IntKind.i64.wrap ((2:Int) * t51)) > t56)))))

noncomputable def law04_ConfigMost_l1 (a1 : Int) (a0 : Int) (s : (Int × Int × Int)) : Option ((Int × Int × Int) ⊕ (Int × Int)) :=
  match s with | (z57, z58, z59) => (bif (decide (z59 < (64:Int))) then (gd (decide ((0:Int) ≤ z59)) (bif ((bAnd .u64 (iShr .u64 a1 z59) (1:Int)) == (1:Int)) then (gd (decide ((0:Int) ≤ z59)) (bif ((bAnd .u64 (iShr .u64 a0 z59) (1:Int)) == (1:Int)) then (some (Sum.inl ((IntKind.i64.wrap (z57 + (1:Int))), (IntKind.i64.wrap (z58 + (1:Int))), (IntKind.i64.wrap (z59 + (1:Int)))))) else (some (Sum.inl (z57, (IntKind.i64.wrap (z58 + (1:Int))), (IntKind.i64.wrap (z59 + (1:Int)))))))) else (some (Sum.inl (z57, z58, (IntKind.i64.wrap (z59 + (1:Int)))))))) else (inrO (some (z57, z58))))
noncomputable def law04_ConfigMost_j0 (a0 : Int) (a1 : Int) (s : (Int × Int)) : Option (Bool) :=
  match s with | (z73, z74) => (law04_awake.bind fun t80 => (bif t80 then ((config_Most a0 a1).bind fun t86 => (some (t86 == (decide (z73 > (IntKind.i64.wrap (z74 - z73))))))) else (some false)))
noncomputable def law04_ConfigMost (a0 : Int) (a1 : Int) : Option (Bool) :=
  (((loopO (law04_ConfigMost_l1 a1 a0) ((0:Int), (0:Int), (0:Int)))).bind (law04_ConfigMost_j0 a0 a1))

noncomputable def ref01_Rising_l0 (a0 : (List Nat)) (z146 : (Int)) : Option ((Int) ⊕ (Bool)) :=
  (bif (decide (z146 < ((a0).length : Int))) then ((geto a0 (IntKind.i64.wrap (z146 - (1:Int)))).bind fun x156 => ((geto a0 z146).bind fun x161 => ((ref01_Ahead x156 x161).bind fun t166 => (bif (!t166) then (inrO (some false)) else (some (Sum.inl (IntKind.i64.wrap (z146 + (1:Int))))))))) else (inrO (some true)))
noncomputable def ref01_Rising (a0 : (List Nat)) : Option (Bool) :=
  (loopO (ref01_Rising_l0 a0) (1:Int))

noncomputable def ref03_Leq (a0 : (List Int)) (a1 : Int) (a2 : Int) : Option (Bool) :=
  (bif (decide (a1 ≥ (0:Int))) then (bif (decide (a2 ≥ (0:Int))) then (bif (decide (a1 < ((a0).length : Int))) then (bif (decide (a2 < ((a0).length : Int))) then ((geto a0 a1).bind fun x104 => (gd (decide ((0:Int) ≤ a2)) (some ((bAnd .u64 (iShr .u64 x104 a2) (1:Int)) == (1:Int))))) else (some false)) else (some false)) else (some false)) else (some false))

noncomputable def ref03_Join_l2 (a0 : (List Int)) (a1 : Int) (a2 : Int) (z1402 : Int) (s : (Bool × Int)) : Option ((Bool × Int) ⊕ ((Int) ⊕ (Int))) :=
  match s with | (z1471, z1472) => (bif (decide (z1472 < ((a0).length : Int))) then (bif z1471 then ((ref03_Leq a0 a1 z1472).bind fun t1483 => (bif t1483 then ((ref03_Leq a0 a2 z1472).bind fun t1489 => (bif t1489 then ((ref03_Leq a0 z1402 z1472).bind fun t1495 => (bif (!t1495) then (some (Sum.inl (false, (IntKind.i64.wrap (z1472 + (1:Int)))))) else (some (Sum.inl (z1471, (IntKind.i64.wrap (z1472 + (1:Int)))))))) else (some (Sum.inl (z1471, (IntKind.i64.wrap (z1472 + (1:Int)))))))) else (some (Sum.inl (z1471, (IntKind.i64.wrap (z1472 + (1:Int)))))))) else (inrO (some (Sum.inl (IntKind.i64.wrap (z1402 + (1:Int))))))) else (inrO (bif z1471 then (inrO (some z1402)) else (some (Sum.inl (IntKind.i64.wrap (z1402 + (1:Int))))))))
noncomputable def ref03_Join_j1 (a0 : (List Int)) (a1 : Int) (a2 : Int) (z1402 : Int) (z1423 : (Bool)) : Option ((Int) ⊕ (Int)) :=
  (loopO (ref03_Join_l2 a0 a1 a2 z1402) (z1423, (0:Int)))
noncomputable def ref03_Join_l0 (a0 : (List Int)) (a1 : Int) (a2 : Int) (z1402 : (Int)) : Option ((Int) ⊕ (Int)) :=
  (bif (decide (z1402 < ((a0).length : Int))) then ((((ref03_Leq a0 a1 z1402).bind fun t1412 => (bif t1412 then ((ref03_Leq a0 a2 z1402).bind fun t1418 => (some t1418)) else (some false)))).bind (ref03_Join_j1 a0 a1 a2 z1402)) else (inrO (some ((-1):Int))))
noncomputable def ref03_Join (a0 : (List Int)) (a1 : Int) (a2 : Int) : Option (Int) :=
  (loopO (ref03_Join_l0 a0 a1 a2) (0:Int))

noncomputable def ref03_Meet_l2 (a0 : (List Int)) (a1 : Int) (a2 : Int) (z1408 : Int) (s : (Bool × Int)) : Option ((Bool × Int) ⊕ ((Int) ⊕ (Int))) :=
  match s with | (z1477, z1478) => (bif (decide (z1478 < ((a0).length : Int))) then (bif z1477 then ((ref03_Leq a0 z1478 a1).bind fun t1489 => (bif t1489 then ((ref03_Leq a0 z1478 a2).bind fun t1495 => (bif t1495 then ((ref03_Leq a0 z1478 z1408).bind fun t1501 => (bif (!t1501) then (some (Sum.inl (false, (IntKind.i64.wrap (z1478 + (1:Int)))))) else (some (Sum.inl (z1477, (IntKind.i64.wrap (z1478 + (1:Int)))))))) else (some (Sum.inl (z1477, (IntKind.i64.wrap (z1478 + (1:Int)))))))) else (some (Sum.inl (z1477, (IntKind.i64.wrap (z1478 + (1:Int)))))))) else (inrO (some (Sum.inl (IntKind.i64.wrap (z1408 + (1:Int))))))) else (inrO (bif z1477 then (inrO (some z1408)) else (some (Sum.inl (IntKind.i64.wrap (z1408 + (1:Int))))))))
noncomputable def ref03_Meet_j1 (a0 : (List Int)) (a1 : Int) (a2 : Int) (z1408 : Int) (z1429 : (Bool)) : Option ((Int) ⊕ (Int)) :=
  (loopO (ref03_Meet_l2 a0 a1 a2 z1408) (z1429, (0:Int)))
noncomputable def ref03_Meet_l0 (a0 : (List Int)) (a1 : Int) (a2 : Int) (z1408 : (Int)) : Option ((Int) ⊕ (Int)) :=
  (bif (decide (z1408 < ((a0).length : Int))) then ((((ref03_Leq a0 z1408 a1).bind fun t1418 => (bif t1418 then ((ref03_Leq a0 z1408 a2).bind fun t1424 => (some t1424)) else (some false)))).bind (ref03_Meet_j1 a0 a1 a2 z1408)) else (inrO (some ((-1):Int))))
noncomputable def ref03_Meet (a0 : (List Int)) (a1 : Int) (a2 : Int) : Option (Int) :=
  (loopO (ref03_Meet_l0 a0 a1 a2) (0:Int))

noncomputable def ref03_Check_l4 (a0 : (List Int)) (z1657 : Int) (z1852 : Int) (z1919 : (Int)) : Option ((Int) ⊕ ((Int) ⊕ ((Int) ⊕ (Unit ⊕ (Int))))) :=
  (bif (decide (z1919 < ((a0).length : Int))) then ((ref03_Leq a0 z1657 z1852).bind fun t1929 => (bif t1929 then ((ref03_Leq a0 z1852 z1919).bind fun t1935 => (bif t1935 then ((ref03_Leq a0 z1657 z1919).bind fun t1941 => (bif (!t1941) then (inrO (inrO (inrO (inrO (some (15:Int)))))) else (some (Sum.inl (IntKind.i64.wrap (z1919 + (1:Int))))))) else (some (Sum.inl (IntKind.i64.wrap (z1919 + (1:Int))))))) else (some (Sum.inl (IntKind.i64.wrap (z1919 + (1:Int))))))) else (inrO (some (Sum.inl (IntKind.i64.wrap (z1852 + (1:Int)))))))
noncomputable def ref03_Check_j3 (a0 : (List Int)) (z1657 : Int) (z1852 : Int) (_s : Unit) : Option ((Int) ⊕ ((Int) ⊕ (Unit ⊕ (Int)))) :=
  (loopO (ref03_Check_l4 a0 z1657 z1852) (0:Int))
noncomputable def ref03_Check_l2 (a0 : (List Int)) (z1657 : Int) (z1852 : (Int)) : Option ((Int) ⊕ ((Int) ⊕ (Unit ⊕ (Int)))) :=
  (bif (decide (z1852 < ((a0).length : Int))) then (joinO (bif (z1657 != z1852) then ((ref03_Leq a0 z1657 z1852).bind fun t1863 => (bif t1863 then ((ref03_Leq a0 z1852 z1657).bind fun t1869 => (bif t1869 then (inrO (inrO (inrO (inrO (some (15:Int)))))) else (some (Sum.inl ())))) else (some (Sum.inl ())))) else (some (Sum.inl ()))) (ref03_Check_j3 a0 z1657 z1852)) else (inrO (some (Sum.inl (IntKind.i64.wrap (z1657 + (1:Int)))))))
noncomputable def ref03_Check_l1 (a0 : (List Int)) (z1657 : (Int)) : Option ((Int) ⊕ (Unit ⊕ (Int))) :=
  (bif (decide (z1657 < ((a0).length : Int))) then ((geto a0 z1657).bind fun x1667 => (gd (decide ((0:Int) ≤ ((a0).length : Int))) (bif ((iShr .u64 x1667 ((a0).length : Int)) != (0:Int)) then (inrO (inrO (some (15:Int)))) else ((ref03_Leq a0 z1657 z1657).bind fun t1674 => (bif (!t1674) then (inrO (inrO (some (15:Int)))) else (loopO (ref03_Check_l2 a0 z1657) (0:Int))))))) else (inrO (some (Sum.inl ()))))
noncomputable def ref03_Check_l6 (a0 : (List Int)) (z2052 : Int) (z2089 : (Int)) : Option ((Int) ⊕ ((Int) ⊕ (Int))) :=
  (bif (decide (z2089 < ((a0).length : Int))) then ((ref03_Join a0 z2052 z2089).bind fun t2099 => (bif (decide (t2099 < (0:Int))) then (inrO (inrO (some (15:Int)))) else ((ref03_Meet a0 z2052 z2089).bind fun t2105 => (bif (decide (t2105 < (0:Int))) then (inrO (inrO (some (15:Int)))) else (some (Sum.inl (IntKind.i64.wrap (z2089 + (1:Int))))))))) else (inrO (some (Sum.inl (IntKind.i64.wrap (z2052 + (1:Int)))))))
noncomputable def ref03_Check_l5 (a0 : (List Int)) (z2052 : (Int)) : Option ((Int) ⊕ (Int)) :=
  (bif (decide (z2052 < ((a0).length : Int))) then (loopO (ref03_Check_l6 a0 z2052) (0:Int)) else (inrO (some (0:Int))))
noncomputable def ref03_Check_j0 (a0 : (List Int)) (_s : Unit) : Option (Int) :=
  (loopO (ref03_Check_l5 a0) (0:Int))
noncomputable def ref03_Check (a0 : (List Int)) : Option (Int) :=
  (bif (decide (((a0).length : Int) < (1:Int))) then (some (1:Int)) else (bif (decide (((a0).length : Int) > (16:Int))) then (some (1:Int)) else (joinO (loopO (ref03_Check_l1 a0) (0:Int)) (ref03_Check_j0 a0))))

noncomputable def ref04_Check_j1 (a0 : api_Config) (z114 : (Bool)) : Option (Int) :=
  (bif (!z114) then (some (1:Int)) else ((ref03_Check a0.Up).bind fun t121 => (some t121)))
noncomputable def ref04_Check_j0 (a0 : api_Config) (z101 : (Bool)) : Option (Int) :=
  (((bif z101 then (bif (decide (a0.Quota ≥ (1:Int))) then (bif (decide (a0.Quota ≤ (268435456:Int))) then (bif (decide (a0.Wide ≥ (0:Int))) then (bif (decide (a0.Wide ≤ (256:Int))) then (bif (decide (a0.Beat ≥ (1:Int))) then (bif (decide (a0.Elect > a0.Beat)) then (some (decide (a0.Elect ≤ (1000:Int)))) else (some false)) else (some false)) else (some false)) else (some false)) else (some false)) else (some false)) else (some false))).bind (ref04_Check_j1 a0))
noncomputable def ref04_Check (a0 : api_Config) : Option (Int) :=
  (((bif (decide (a0.Nodes ≥ (1:Int))) then (bif (decide (a0.Nodes ≤ (7:Int))) then (bif (decide (((a0.Cuts).length : Int) < (8:Int))) then ((ref01_Rising a0.Cuts).bind fun t92 => (bif t92 then (bif (decide (a0.Frame ≥ (64:Int))) then (bif (decide (a0.Frame ≤ (4096:Int))) then (bif (decide (a0.Depth ≥ (1:Int))) then (some (decide (a0.Depth ≤ (65536:Int)))) else (some false)) else (some false)) else (some false)) else (some false))) else (some false)) else (some false)) else (some false))).bind (ref04_Check_j0 a0))

noncomputable def law04_ConfigChecks (a0 : api_Config) : Option (Bool) :=
  (law04_awake.bind fun t51 => (bif (!t51) then (law04_awake.bind fun t57 => (some t57)) else (bif (decide (((a0.Up).length : Int) > (20:Int))) then (law04_awake.bind fun t63 => (some t63)) else (bif (decide (((a0.Cuts).length : Int) > (100:Int))) then (law04_awake.bind fun t69 => (some t69)) else ((config_New a0).bind fun t74 => ((ref04_Check a0).bind fun t81 => (bif (t74.2 == t81) then (some ((!(t74.1.isNone)) == (t81 == (0:Int)))) else (some false))))))))

noncomputable def law04_ConfigNear_j0 (z126 : (api_Config)) : Option (Bool) :=
  ((config_New z126).bind fun t140 => (law04_awake.bind fun t147 => (bif t147 then ((ref04_Check z126).bind fun t153 => (bif (t140.2 == t153) then (some ((!(t140.1.isNone)) == (t140.2 == (0:Int)))) else (some false))) else (some false))))
noncomputable def law04_ConfigNear (a0 : Int) (a1 : Int) (a2 : Int) : Option (Bool) :=
  ((ref04_Small a0).bind fun t80 => (((bif ((Int.tmod a1 (8:Int)) == (0:Int)) then (some ({ Up := t80.Up, Nodes := a2, Cuts := t80.Cuts, Frame := t80.Frame, Depth := t80.Depth, Quota := t80.Quota, Wide := t80.Wide, Beat := t80.Beat, Elect := t80.Elect } : api_Config)) else (bif ((Int.tmod a1 (8:Int)) == (1:Int)) then (some ({ Up := t80.Up, Nodes := t80.Nodes, Cuts := t80.Cuts, Frame := a2, Depth := t80.Depth, Quota := t80.Quota, Wide := t80.Wide, Beat := t80.Beat, Elect := t80.Elect } : api_Config)) else (bif ((Int.tmod a1 (8:Int)) == (2:Int)) then (some ({ Up := t80.Up, Nodes := t80.Nodes, Cuts := t80.Cuts, Frame := t80.Frame, Depth := a2, Quota := t80.Quota, Wide := t80.Wide, Beat := t80.Beat, Elect := t80.Elect } : api_Config)) else (bif ((Int.tmod a1 (8:Int)) == (3:Int)) then (some ({ Up := t80.Up, Nodes := t80.Nodes, Cuts := t80.Cuts, Frame := t80.Frame, Depth := t80.Depth, Quota := a2, Wide := t80.Wide, Beat := t80.Beat, Elect := t80.Elect } : api_Config)) else (bif ((Int.tmod a1 (8:Int)) == (4:Int)) then (some ({ Up := t80.Up, Nodes := t80.Nodes, Cuts := t80.Cuts, Frame := t80.Frame, Depth := t80.Depth, Quota := t80.Quota, Wide := a2, Beat := t80.Beat, Elect := t80.Elect } : api_Config)) else (bif ((Int.tmod a1 (8:Int)) == (5:Int)) then (some ({ Up := t80.Up, Nodes := t80.Nodes, Cuts := t80.Cuts, Frame := t80.Frame, Depth := t80.Depth, Quota := t80.Quota, Wide := t80.Wide, Beat := a2, Elect := t80.Elect } : api_Config)) else (bif ((Int.tmod a1 (8:Int)) == (6:Int)) then (some ({ Up := t80.Up, Nodes := t80.Nodes, Cuts := t80.Cuts, Frame := t80.Frame, Depth := t80.Depth, Quota := t80.Quota, Wide := t80.Wide, Beat := t80.Beat, Elect := a2 } : api_Config)) else (some ({ Up := t80.Up, Nodes := t80.Nodes, Cuts := [(0:Nat), (fOfInt a2)], Frame := t80.Frame, Depth := t80.Depth, Quota := t80.Quota, Wide := t80.Wide, Beat := t80.Beat, Elect := t80.Elect } : api_Config)))))))))).bind (law04_ConfigNear_j0)))

noncomputable def config_Plan_Part (a0 : (Option config_Plan)) (a1 : Int) : Option (Int) :=
  (match a0 with | none => (some ((-1):Int)) | some o0 => (bif (decide (a1 < (0:Int))) then (some ((-1):Int)) else ((config_Plan_Rules (some o0)).bind fun t89 => (bif (decide (a1 ≥ t89)) then (some ((-1):Int)) else ((config_Plan_Shards (some o0)).bind fun t95 => (gd (!(t95 == (0:Int))) (some (Int.tmod a1 t95))))))))

noncomputable def ref03_Order_l3 (a0 : (List Int)) (z1485 : Int) (s : (Int × Int)) : Option ((Int × Int) ⊕ (Int)) :=
  match s with | (z1511, z1512) => (bif (decide (z1512 < ((a0).length : Int))) then ((ref03_Leq a0 z1512 z1485).bind fun t1522 => (bif t1522 then (some (Sum.inl ((IntKind.i64.wrap (z1511 + (1:Int))), (IntKind.i64.wrap (z1512 + (1:Int)))))) else (some (Sum.inl (z1511, (IntKind.i64.wrap (z1512 + (1:Int)))))))) else (inrO (some z1511)))
noncomputable def ref03_Order_j2 (z1367 : Int) (z1482 : (List Int)) (z1485 : Int) (z1528 : (Int)) : Option (((List Int) × Int) ⊕ (((List Int) × Int) ⊕ ((List Int)))) :=
  (bif (z1528 == z1367) then (gd (room z1482 ([z1485])) (some (Sum.inl ((z1482 ++ ([z1485])), (IntKind.i64.wrap (z1485 + (1:Int))))))) else (some (Sum.inl (z1482, (IntKind.i64.wrap (z1485 + (1:Int)))))))
noncomputable def ref03_Order_l1 (a0 : (List Int)) (z1367 : Int) (s : ((List Int) × Int)) : Option (((List Int) × Int) ⊕ (((List Int) × Int) ⊕ ((List Int)))) :=
  match s with | (z1482, z1485) => (bif (decide (z1485 < ((a0).length : Int))) then (((loopO (ref03_Order_l3 a0 z1485) ((0:Int), (0:Int)))).bind (ref03_Order_j2 z1367 z1482 z1485)) else (inrO (some (Sum.inl (z1482, (IntKind.i64.wrap (z1367 + (1:Int))))))))
noncomputable def ref03_Order_l0 (a0 : (List Int)) (s : ((List Int) × Int)) : Option (((List Int) × Int) ⊕ ((List Int))) :=
  match s with | (z1364, z1367) => (bif (decide (z1367 ≤ ((a0).length : Int))) then (loopO (ref03_Order_l1 a0 z1367) (z1364, (0:Int))) else (inrO (some z1364)))
noncomputable def ref03_Order (a0 : (List Int)) : Option ((List Int)) :=
  (loopO (ref03_Order_l0 a0) ([], (0:Int)))

noncomputable def config_Plan_Chief (a0 : (Option config_Plan)) (a1 : Int) : Option (Int) :=
  ((config_Plan_Lane a0 a1 (0:Int)).bind fun t136 => (some t136))

noncomputable def config_Plan_All (a0 : (Option config_Plan)) : Option (Int) :=
  (match a0 with | none => (some (0:Int)) | some o0 => (gd (decide ((0:Int) ≤ o0.C.Nodes)) (some (IntKind.u64.wrap ((iShl .u64 (1:Int) o0.C.Nodes) - (1:Int))))))

noncomputable def config_Plan_Node (a0 : (Option config_Plan)) (a1 : Int) : Option (Bool) :=
  (match a0 with | none => (some false) | some o0 => (bif (decide (a1 ≥ (0:Int))) then (some (decide (a1 < o0.C.Nodes))) else (some false)))

noncomputable def law04_ConfigLanes_l2 (a1 : (List Nat)) (t535 : (Option config_Plan × Int)) (z815 : Int) (t512 : (api_Config)) (z892 : (Int)) : Option ((Int) ⊕ ((Int) ⊕ (Unit ⊕ (Bool)))) :=
  (bif (decide (z892 ≤ (IntKind.i64.wrap (((a1).length : Int) + (1:Int))))) then ((config_Plan_Lane t535.1 z815 z892).bind fun t902 => (bif (decide (z815 < (0:Int))) then (bif (t902 != ((-1):Int)) then (inrO (inrO (inrO (some false)))) else (some (Sum.inl (IntKind.i64.wrap (z892 + (1:Int)))))) else (bif (decide (z815 ≥ ((t512.Up).length : Int))) then (bif (t902 != ((-1):Int)) then (inrO (inrO (inrO (some false)))) else (some (Sum.inl (IntKind.i64.wrap (z892 + (1:Int)))))) else (bif (decide (z892 < (0:Int))) then (bif (t902 != ((-1):Int)) then (inrO (inrO (inrO (some false)))) else (some (Sum.inl (IntKind.i64.wrap (z892 + (1:Int)))))) else (bif (decide (z892 ≥ (IntKind.i64.wrap (((a1).length : Int) + (1:Int))))) then (bif (t902 != ((-1):Int)) then (inrO (inrO (inrO (some false)))) else (some (Sum.inl (IntKind.i64.wrap (z892 + (1:Int)))))) else (bif (t902 != (IntKind.i64.wrap ((IntKind.i64.wrap (z815 * (IntKind.i64.wrap (((a1).length : Int) + (1:Int))))) + z892))) then (inrO (inrO (inrO (some false)))) else ((config_Plan_Label t535.1 t902).bind fun t916 => (bif (t916 != z815) then (inrO (inrO (inrO (some false)))) else ((config_Plan_Part t535.1 t902).bind fun t922 => (bif (t922 != z892) then (inrO (inrO (inrO (some false)))) else ((config_Plan_Chief t535.1 z815).bind fun t928 => (bif (t928 != (IntKind.i64.wrap (z815 * (IntKind.i64.wrap (((a1).length : Int) + (1:Int)))))) then (inrO (inrO (inrO (some false)))) else (some (Sum.inl (IntKind.i64.wrap (z892 + (1:Int))))))))))))))))) else (inrO (some (Sum.inl (IntKind.i64.wrap (z815 + (1:Int)))))))
noncomputable def law04_ConfigLanes_l1 (t512 : (api_Config)) (a1 : (List Nat)) (t535 : (Option config_Plan × Int)) (z815 : (Int)) : Option ((Int) ⊕ (Unit ⊕ (Bool))) :=
  (bif (decide (z815 ≤ ((t512.Up).length : Int))) then (loopO (law04_ConfigLanes_l2 a1 t535 z815 t512) ((-1):Int)) else (inrO (some (Sum.inl ()))))
noncomputable def law04_ConfigLanes_j0 (t535 : (Option config_Plan × Int)) (t512 : (api_Config)) (a1 : (List Nat)) (_s : Unit) : Option (Bool) :=
  ((config_Plan_Label t535.1 ((-1):Int)).bind fun t939 => (bif (t939 == ((-1):Int)) then ((config_Plan_Label t535.1 (IntKind.i64.wrap ((IntKind.i64.wrap (((t512.Up).length : Int) * (IntKind.i64.wrap (((a1).length : Int) + (1:Int))))) + (1:Int)))).bind fun t945 => (bif (t945 == ((-1):Int)) then ((config_Plan_Part t535.1 ((-1):Int)).bind fun t951 => (bif (t951 == ((-1):Int)) then ((config_Plan_Part t535.1 (IntKind.i64.wrap ((IntKind.i64.wrap (((t512.Up).length : Int) * (IntKind.i64.wrap (((a1).length : Int) + (1:Int))))) + (1:Int)))).bind fun t957 => (bif (t957 == ((-1):Int)) then (gd (decide ((0:Int) ≤ t512.Nodes)) ((config_Plan_All t535.1).bind fun t964 => (bif (t964 == (IntKind.u64.wrap ((iShl .u64 (1:Int) t512.Nodes) - (1:Int)))) then ((config_Plan_Node t535.1 (IntKind.i64.wrap (t512.Nodes - (1:Int)))).bind fun t970 => (bif t970 then ((config_Plan_Node t535.1 t512.Nodes).bind fun t976 => (bif (!t976) then ((config_Plan_Node t535.1 ((-1):Int)).bind fun t982 => (some (!t982))) else (some false))) else (some false))) else (some false)))) else (some false))) else (some false))) else (some false))) else (some false)))
noncomputable def law04_ConfigLanes (a0 : Int) (a1 : (List Nat)) : Option (Bool) :=
  (law04_awake.bind fun t495 => (bif (!t495) then (law04_awake.bind fun t501 => (some t501)) else (bif (decide (((a1).length : Int) > (7:Int))) then (law04_awake.bind fun t507 => (some t507)) else ((ref04_Small a0).bind fun t512 => ((config_New ({ Up := t512.Up, Nodes := t512.Nodes, Cuts := a1, Frame := t512.Frame, Depth := t512.Depth, Quota := t512.Quota, Wide := t512.Wide, Beat := t512.Beat, Elect := t512.Elect } : api_Config)).bind fun t535 => (bif (t535.2 != (0:Int)) then ((ref01_Rising a1).bind fun t543 => (some (!t543))) else ((config_Plan_Shards t535.1).bind fun t548 => (bif (t548 != (IntKind.i64.wrap (((a1).length : Int) + (1:Int)))) then (some false) else ((config_Plan_Lanes t535.1).bind fun t554 => (bif (t554 != (IntKind.i64.wrap ((IntKind.i64.wrap (((t512.Up).length : Int) * (IntKind.i64.wrap (((a1).length : Int) + (1:Int))))) + (1:Int)))) then (some false) else ((config_Plan_Rules t535.1).bind fun t560 => (bif (t560 != (IntKind.i64.wrap ((IntKind.i64.wrap ((IntKind.i64.wrap (((t512.Up).length : Int) * (IntKind.i64.wrap (((a1).length : Int) + (1:Int))))) + (1:Int))) - (1:Int)))) then (some false) else ((config_Plan_L0 t535.1).bind fun t566 => (bif (t566 != ((t512.Up).length : Int)) then (some false) else ((config_Plan_Part t535.1 (IntKind.i64.wrap ((IntKind.i64.wrap ((IntKind.i64.wrap (((t512.Up).length : Int) * (IntKind.i64.wrap (((a1).length : Int) + (1:Int))))) + (1:Int))) - (1:Int)))).bind fun t572 => (bif (t572 != ((-1):Int)) then (some false) else ((config_Plan_Label t535.1 (IntKind.i64.wrap ((IntKind.i64.wrap ((IntKind.i64.wrap (((t512.Up).length : Int) * (IntKind.i64.wrap (((a1).length : Int) + (1:Int))))) + (1:Int))) - (1:Int)))).bind fun t578 => ((ref03_Order t512.Up).bind fun t583 => ((geto t583 (0:Int)).bind fun x590 => (bif (t578 != x590) then (some false) else (joinO (loopO (law04_ConfigLanes_l1 t512 a1 t535) ((-1):Int)) (law04_ConfigLanes_j0 t535 t512 a1))))))))))))))))))))))

noncomputable def number_Shard_l0 (a0 : (List Nat)) (a1 : Nat) (s : (Int × Int)) : Option ((Int × Int) ⊕ (Int)) :=
  match s with | (z207, z208) => (bif (decide (z207 < z208)) then (((geto a0 (IntKind.i64.wrap (iShr .u64 (IntKind.u64.wrap (IntKind.i64.wrap (z207 + z208))) (1:Int)))).bind fun x218 => ((number_Less a1 x218).bind fun t223 => (some t223))).bind fun z228 => (bif (!z228) then (some (Sum.inl ((IntKind.i64.wrap ((IntKind.i64.wrap (iShr .u64 (IntKind.u64.wrap (IntKind.i64.wrap (z207 + z208))) (1:Int))) + (1:Int))), z208))) else (some (Sum.inl (z207, (IntKind.i64.wrap (iShr .u64 (IntKind.u64.wrap (IntKind.i64.wrap (z207 + z208))) (1:Int)))))))) else (inrO (some z207)))
noncomputable def number_Shard (a0 : (List Nat)) (a1 : Nat) : Option (Int) :=
  ((loopO (number_Shard_l0 a0 a1) ((0:Int), ((a0).length : Int))).bind fun z234 => (some z234))

noncomputable def config_Plan_Shard (a0 : (Option config_Plan)) (a1 : Nat) : Option (Int) :=
  (match a0 with | none => (some (0:Int)) | some o0 => ((number_Shard o0.C.Cuts a1).bind fun t92 => (some t92)))

noncomputable def ref01_Shard_l0 (a0 : (List Nat)) (a1 : Nat) (s : (Int × Int)) : Option ((Int × Int) ⊕ (Int)) :=
  match s with | (z143, z144) => (bif (decide (z144 < ((a0).length : Int))) then ((geto a0 z144).bind fun x154 => ((ref01_Ahead a1 x154).bind fun t159 => (bif (!t159) then (some (Sum.inl ((IntKind.i64.wrap (z143 + (1:Int))), (IntKind.i64.wrap (z144 + (1:Int)))))) else (some (Sum.inl (z143, (IntKind.i64.wrap (z144 + (1:Int))))))))) else (inrO (some z143)))
noncomputable def ref01_Shard (a0 : (List Nat)) (a1 : Nat) : Option (Int) :=
  (loopO (ref01_Shard_l0 a0 a1) ((0:Int), (0:Int)))

noncomputable def config_Plan_Span_l0 (a0 : (Option config_Plan)) (a1 : api_Span) (s : (Int × Int)) : Option ((Int × Int) ⊕ (Int)) :=
  match s with | (z150, z151) => ((config_Plan_Shard a0 a1.To).bind fun t160 => (bif (decide (z151 ≤ t160)) then (gd (decide ((0:Int) ≤ z151)) (some (Sum.inl ((bOr .u64 z150 (iShl .u64 (1:Int) z151)), (IntKind.i64.wrap (z151 + (1:Int))))))) else (inrO (some z150))))
noncomputable def config_Plan_Span (a0 : (Option config_Plan)) (a1 : api_Span) : Option (Int) :=
  ((number_Less a1.To a1.From).bind fun t123 => (bif (!t123) then ((config_Plan_Shard a0 a1.From).bind fun t129 => (loopO (config_Plan_Span_l0 a0 a1) ((0:Int), t129))) else (some (0:Int))))

noncomputable def ref04_Span_l0 (a0 : api_Config) (a1 : api_Span) (s : (Int × Int)) : Option ((Int × Int) ⊕ (Int)) :=
  match s with | (z203, z204) => (bif (decide (z204 ≤ ((a0.Cuts).length : Int))) then ((ref01_Ahead a1.To a1.From).bind fun t214 => (bif (!t214) then ((ref01_Shard a0.Cuts a1.From).bind fun t220 => (bif (decide (z204 ≥ t220)) then ((ref01_Shard a0.Cuts a1.To).bind fun t226 => (bif (decide (z204 ≤ t226)) then (gd (decide ((0:Int) ≤ z204)) (some (Sum.inl ((bOr .u64 z203 (iShl .u64 (1:Int) z204)), (IntKind.i64.wrap (z204 + (1:Int))))))) else (some (Sum.inl (z203, (IntKind.i64.wrap (z204 + (1:Int)))))))) else (some (Sum.inl (z203, (IntKind.i64.wrap (z204 + (1:Int)))))))) else (some (Sum.inl (z203, (IntKind.i64.wrap (z204 + (1:Int)))))))) else (inrO (some z203)))
noncomputable def ref04_Span (a0 : api_Config) (a1 : api_Span) : Option (Int) :=
  (loopO (ref04_Span_l0 a0 a1) ((0:Int), (0:Int)))

noncomputable def law04_ConfigShards (a0 : (List Nat)) (a1 : Nat) (a2 : Nat) : Option (Bool) :=
  (law04_awake.bind fun t90 => (bif (!t90) then (law04_awake.bind fun t96 => (some t96)) else (bif (decide (((a0).length : Int) > (7:Int))) then (law04_awake.bind fun t102 => (some t102)) else ((ref01_Rising a0).bind fun t107 => (bif (!t107) then (law04_awake.bind fun t113 => (some t113)) else ((ref04_Small (0:Int)).bind fun t118 => ((config_New ({ Up := t118.Up, Nodes := t118.Nodes, Cuts := a0, Frame := t118.Frame, Depth := t118.Depth, Quota := t118.Quota, Wide := t118.Wide, Beat := t118.Beat, Elect := t118.Elect } : api_Config)).bind fun t141 => (bif (t141.2 == (0:Int)) then ((config_Plan_Shard t141.1 a1).bind fun t156 => ((ref01_Shard a0 a1).bind fun t161 => (bif (t156 == t161) then ((config_Plan_Span t141.1 ({ Label := (0:Int), From := a1, To := a2 } : api_Span)).bind fun t167 => ((ref04_Span ({ Up := t118.Up, Nodes := t118.Nodes, Cuts := a0, Frame := t118.Frame, Depth := t118.Depth, Quota := t118.Quota, Wide := t118.Wide, Beat := t118.Beat, Elect := t118.Elect } : api_Config) ({ Label := (0:Int), From := a1, To := a2 } : api_Span)).bind fun t172 => (some (t167 == t172)))) else (some false)))) else (some false)))))))))
end Go.Proofs.Ytkjkbfaaigmmcaa
