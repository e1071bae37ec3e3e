/- A part of the proof. -/
import Derived.Test.YtgnkkopjkgdieaaGreatLanePlaysGw
set_option linter.unusedVariables false
set_option linter.unusedSimpArgs false
set_option maxRecDepth 100000
set_option maxHeartbeats 4000000
namespace Go.Proofs.YtgnkkopjkgdieaaGreat
open Go Go.V
structure aY where
 Epoch : Int
 Index : Int
 Del : Bool
 Val : (List Int)
structure bV where
 rank : Int
 l : (List aY)
structure cP where
 rows : (List bV)
structure bO where
 Session : Int
 Seq : Int
structure ap where
 ID : bO
 Epoch : Int
 Gets : (List Nat)
 Scans : (List (Nat × Nat))
 Puts : (List Nat)
 Data : (List Int)
structure cg where
 l : (List ap)
structure ct where
 Has : Bool
 Val : (List Int)
structure bQ where
 At : Nat
 Val : (List Int)
structure bw where
 E : Int
 Epoch : Int
 Index : Int
 Gots : (List ct)
 Scans : (List (List bQ))
structure aQ where
 session : Int
 seq : Int
 r : bw
structure cm where
 l : (List aQ)
structure du where
 ID : Int
 From : Int
 To : Int
 Lo : Nat
 Hi : Nat
 Authority : Int
 Quota : Int
structure dg where
 r : du
 from_ : Int
 to_ : Int
structure cA where
 l : (List dg)
structure bR where
 At : Nat
 Del : Bool
 Val : (List Int)
structure ee where
 Shard : Int
 Writes : (List bR)
structure bC where
 ID : bO
 E : Int
 Epoch : Int
 Index : Int
 Shards : Int
 Parts : (List ee)
structure cR where
 To : Int
 N : Int
 Rule : Int
 Epoch : Int
 W : bR
structure cn where
 jT : Int
 epoch : Int
 n : Int
structure ae where
 wide : Int
 epoch : Int
 store : (Option cP)
 locks : (Option cg)
 last : (Option cm)
 book : (Option cA)
 open_ : (List bC)
 out : (List cR)
 used : (List cn)
structure aH where
 Kind : Int
 ID : bO
 Epoch : Int
 Index : Int
 E : Int
 Hold : ap
 Writes : (List bR)
 R : bw
 Shards : Int
 Parts : (List ee)
 Rule : du
 On : Bool
structure bj where
 Kind : Int
 ID : bO
 R : bw
structure aF where
 At : Nat
 Epoch : Int
 Index : Int
 Del : Bool
 Val : (List Int)
structure cw where
 Session : Int
 Seq : Int
 R : bw
structure cH where
 R : du
 From : Int
 To : Int
structure dv where
 Rule : Int
 Epoch : Int
 N : Int
structure aj where
 Wide : Int
 Epoch : Int
 V : (List aF)
 H : (List ap)
 A : (List cw)
 B : (List cH)
 Open : (List bC)
 Out : (List cR)
 Used : (List dv)
structure ao where
 L : (List Int)
 I : Int
structure ca where
 p : (List Int)
 bad : Bool
def bK : bw := { E := (0:Int), Epoch := (0:Int), Index := (0:Int), Gots := [], Scans := [] }
def bL : bj := { Kind := (0:Int), ID := ({ Session := (0:Int), Seq := (0:Int) } : bO), R := bK }
def ef : ap := { ID := ({ Session := (0:Int), Seq := (0:Int) } : bO), Epoch := (0:Int), Gets := [], Scans := [], Puts := [], Data := [] }
def eE : du := { ID := (0:Int), From := (0:Int), To := (0:Int), Lo := (0:Nat), Hi := (0:Nat), Authority := (0:Int), Quota := (0:Int) }
noncomputable def tS : Option (cP) :=
 (some ({ rows := [] } : cP))
noncomputable def sx : Option (cg) :=
 (some ({ l := [] } : cg))
noncomputable def qe : Option (cm) :=
 (some ({ l := [] } : cm))
noncomputable def qW : Option (cA) :=
 (some ({ l := [] } : cA))
noncomputable def qE (a : Int) : Option (ae) :=
 (tS.bind fun b => (sx.bind fun c => (qe.bind fun d => (qW.bind fun e => (some ({ wide := a, epoch := (1:Int), store := (some b), locks := (some c), last := (some d), book := (some e), open_ := [], out := [], used := [] } : ae))))))
noncomputable def eW (b : cg) (c : Int) (a : (Int)) : Option ((Int) ⊕ (Int)) :=
 (bif (decide (a < ((b.l).length : Int))) then ((df b.l a).bind fun d => ((some ()).bind fun _ => (bif (decide (d.Epoch ≤ c)) then (bB (some a)) else (some (Sum.inl (IntKind.i64.wrap (a + (1:Int)))))))) else (bB (some ((-1):Int))))
noncomputable def eM (a : (Option cg)) (b : Int) : Option (Bool) :=
 (match a with | none => none | some c => (((bA (eW c b) (0:Int)).bind fun d => (some (decide (d ≥ (0:Int))))).bind fun e => (some e)))
noncomputable def jh (b : (Option ae)) : Option (Bool) :=
 (match b with | none => none | some a => ((eM a.locks a.epoch).bind fun c => (some (!c))))
noncomputable def iy (b : (Option ae)) (c : aH) : Option (bj × (Option ae)) :=
 (match b with | none => none | some a => (bif (c.Epoch != a.epoch) then (some (bL, (some a))) else ((jh (some a)).bind fun d => (bif (!d) then (some (bL, (some a))) else (bif (decide ((IntKind.u64.wrap (a.epoch + (1:Int))) > (9:Int))) then none else (some (({ Kind := (1:Int), ID := ({ Session := (0:Int), Seq := (0:Int) } : bO), R := bK } : bj), (some ({ a with epoch := (IntKind.u64.wrap (a.epoch + (1:Int))) } : ae)))))))))
noncomputable def iX (a : Int) : Option (Bool) :=
 (some (a != a))
noncomputable def dB (a b : Int) : Option (Int) :=
 ((iX a).bind fun d => ((iX b).bind fun c => (bif d then (bif c then (some (0:Int)) else (some ((-1):Int))) else (bif c then (some (1:Int)) else (bif (decide (a < b)) then (some ((-1):Int)) else (bif (decide (a > b)) then (some (1:Int)) else (some (0:Int))))))))
noncomputable def lh (b : (List Int)) (a : (Int)) : Option ((Int) ⊕ (Int)) :=
 (bif (decide (a < ((b).length : Int))) then ((df b a).bind fun c => (bif (c != (0:Int)) then (bB (some c)) else (some (Sum.inl (IntKind.i64.wrap (a + (1:Int))))))) else (bB (some (0:Int))))
noncomputable def nY (a : (List Int)) : Option (Int) :=
 (bA (lh a) (0:Int))
noncomputable def lC (a : ap) (b : bO) : Option (Int) :=
 ((dB a.ID.Session b.Session).bind fun c => ((dB a.ID.Seq b.Seq).bind fun d => ((nY ([c, d])).bind fun e => (some e))))
noncomputable def gn (c : cg) (d : bO) (s : (Int × Int)) : Option ((Int × Int) ⊕ (Int)) :=
 match s with | (b, a) => (bif (decide (a < b)) then ((df c.l (IntKind.i64.wrap (fw .u64 (IntKind.u64.wrap (IntKind.i64.wrap (a + b))) (1:Int)))).bind fun e => ((lC e d).bind fun f => (bif (decide (f < (0:Int))) then (some (Sum.inl (b, (IntKind.i64.wrap ((IntKind.i64.wrap (fw .u64 (IntKind.u64.wrap (IntKind.i64.wrap (a + b))) (1:Int))) + (1:Int)))))) else (some (Sum.inl ((IntKind.i64.wrap (fw .u64 (IntKind.u64.wrap (IntKind.i64.wrap (a + b))) (1:Int))), a)))))) else (bB (some a)))
noncomputable def ke (b : cg) (c : bO) (a : (Int)) : Option (Int × Bool) :=
 (bif (decide (a < ((b.l).length : Int))) then ((df b.l a).bind fun d => ((lC d c).bind fun e => (some (a, (e == (0:Int)))))) else (some (a, false)))
noncomputable def fK (c : (Option cg)) (b : bO) : Option (Int × Bool) :=
 (match c with | none => none | some a => ((((bA (gn a b) (((a.l).length : Int), (0:Int)))).bind (ke a b)).bind fun (d, e) => (some (d, e))))
noncomputable def gC (c : (Option cg)) (d : bO) : Option (ap × Bool) :=
 (match c with | none => none | some a => ((fK (some a) d).bind fun b => (bif (!b.2) then (some (ef, false)) else ((df a.l b.1).bind fun e => (some (e, true))))))
noncomputable def pL (a : Nat) : Option (Bool) :=
 (some (fNe a a))
noncomputable def eT (a : Nat) : Option (Int) :=
 ((pL a).bind fun b => (bif b then (some (18446744073709551615:Int)) else (bif ((fw .u64 (Int.ofNat a) (63:Int)) == (1:Int)) then (some (xp .u64 ((18446744073709551615):Int) (Int.ofNat a))) else (some (bOr .u64 (Int.ofNat a) (9223372036854775808:Int))))))
noncomputable def iM (a b : Nat) : Option (Bool) :=
 ((eT a).bind fun c => ((eT b).bind fun d => (some (c == d))))
noncomputable def nD (a b : (Nat × Nat)) : Option (Bool) :=
 ((iM a.1 b.1).bind fun c => (bif c then ((iM a.2 b.2).bind fun d => (some d)) else (some false)))
noncomputable def fc (b c : (List Int)) (a : (Int)) : Option ((Int) ⊕ (Bool)) :=
 (bif (decide (a < ((b).length : Int))) then ((df b a).bind fun d => ((df c a).bind fun e => (bif (d != e) then (bB (some false)) else (some (Sum.inl (IntKind.i64.wrap (a + (1:Int)))))))) else (bB (some true)))
noncomputable def fa (a b : (List Int)) : Option (Bool) :=
 (bif (((a).length : Int) != ((b).length : Int)) then (some false) else (bA (fc a b) (0:Int)))
noncomputable def jU (b c : ap) (a : (Int)) : Option ((Int) ⊕ (Bool)) :=
 (bif (decide (a < ((b.Gets).length : Int))) then ((df b.Gets a).bind fun d => ((df c.Gets a).bind fun e => ((iM d e).bind fun f => (bif (!f) then (bB (some false)) else (some (Sum.inl (IntKind.i64.wrap (a + (1:Int))))))))) else (bB (some true)))
noncomputable def jY (b c : ap) (a : (Int)) : Option ((Int) ⊕ (Bool)) :=
 (bif (decide (a < ((b.Scans).length : Int))) then ((df b.Scans a).bind fun d => ((df c.Scans a).bind fun e => ((nD d e).bind fun f => (bif (!f) then (bB (some false)) else (some (Sum.inl (IntKind.i64.wrap (a + (1:Int))))))))) else (bB (some true)))
noncomputable def jX (b c : ap) (a : (Int)) : Option ((Int) ⊕ (Bool)) :=
 (bif (decide (a < ((b.Puts).length : Int))) then ((df b.Puts a).bind fun d => ((df c.Puts a).bind fun e => ((iM d e).bind fun f => (bif (!f) then (bB (some false)) else (some (Sum.inl (IntKind.i64.wrap (a + (1:Int))))))))) else (bB (some true)))
noncomputable def oe (a b : ap) : Option (Bool) :=
 (bif ((a.ID.Session == b.ID.Session) && (a.ID.Seq == b.ID.Seq)) then (bif (a.Epoch == b.Epoch) then ((bif (((a.Gets).length : Int) != ((b.Gets).length : Int)) then (some false) else (bA (jU a b) (0:Int))).bind fun c => (bif c then ((bif (((a.Scans).length : Int) != ((b.Scans).length : Int)) then (some false) else (bA (jY a b) (0:Int))).bind fun d => (bif d then ((bif (((a.Puts).length : Int) != ((b.Puts).length : Int)) then (some false) else (bA (jX a b) (0:Int))).bind fun e => (bif e then ((fa a.Data b.Data).bind fun f => (some f)) else (some false))) else (some false))) else (some false))) else (some false)) else (some false))
noncomputable def lj (a b c : Nat) : Option (Bool) :=
 ((eT b).bind fun d => ((eT a).bind fun e => (bif (decide (d ≤ e)) then ((eT a).bind fun f => ((eT c).bind fun g => (some (decide (f ≤ g))))) else (some false))))
noncomputable def jx (b : ap) (c d : Nat) (a : (Int)) : Option ((Int) ⊕ (Int)) :=
 (bif (decide (a < ((b.Puts).length : Int))) then ((df b.Puts a).bind fun e => (((lj e c d).bind fun f => (some f)).bind fun g => (bif g then (bB (some a)) else (some (Sum.inl (IntKind.i64.wrap (a + (1:Int)))))))) else (bB (some ((-1):Int))))
noncomputable def nE (a : ap) (b c : Nat) : Option (Bool) :=
 (((bA (jx a b c) (0:Int)).bind fun d => (some (decide (d ≥ (0:Int))))).bind fun e => (some e))
noncomputable def ki (b : ap) (c : Nat) (a : (Int)) : Option ((Int) ⊕ (Int)) :=
 (bif (decide (a < ((b.Gets).length : Int))) then ((df b.Gets a).bind fun d => (((iM c d).bind fun e => (some e)).bind fun f => (bif f then (bB (some a)) else (some (Sum.inl (IntKind.i64.wrap (a + (1:Int)))))))) else (bB (some ((-1):Int))))
noncomputable def kr (b : ap) (d : Nat) (a : (Int)) : Option ((Int) ⊕ (Int)) :=
 (bif (decide (a < ((b.Scans).length : Int))) then ((df b.Scans a).bind fun c => (((lj d c.1 c.2).bind fun e => (some e)).bind fun f => (bif f then (bB (some a)) else (some (Sum.inl (IntKind.i64.wrap (a + (1:Int)))))))) else (bB (some ((-1):Int))))
noncomputable def np (a : ap) (b : Nat) : Option (Bool) :=
 (((bA (ki a b) (0:Int)).bind fun c => (some (decide (c ≥ (0:Int))))).bind fun d => (bif d then (some true) else (((bA (kr a b) (0:Int)).bind fun e => (some (decide (e ≥ (0:Int))))).bind fun f => (some f))))
noncomputable def ln (c d : ap) (a : (Int)) : Option ((Int) ⊕ (Unit ⊕ (Bool))) :=
 (bif (decide (a < ((c.Puts).length : Int))) then ((df c.Puts a).bind fun b => ((nE d b b).bind fun e => (bif e then (bB (bB (some true))) else ((np d b).bind fun f => (bif f then (bB (bB (some true))) else (some (Sum.inl (IntKind.i64.wrap (a + (1:Int)))))))))) else (bB (some (Sum.inl ()))))
noncomputable def lv (b c : ap) (a : (Int)) : Option ((Int) ⊕ (Bool)) :=
 (bif (decide (a < ((b.Puts).length : Int))) then ((df b.Puts a).bind fun d => ((np c d).bind fun e => (bif e then (bB (some true)) else (some (Sum.inl (IntKind.i64.wrap (a + (1:Int)))))))) else (bB (some false)))
noncomputable def mL (a b : ap) (c : Unit) : Option (Bool) :=
 (bA (lv a b) (0:Int))
noncomputable def pH (a b : ap) : Option (Bool) :=
 (iL (bA (ln a b) (0:Int)) (mL b a))
noncomputable def eB (a : (List Nat)) : Option ((List Nat)) :=
 gd (room ([] : (List Nat)) a) (some a)
noncomputable def eL (a : (List (Nat × Nat))) : Option ((List (Nat × Nat))) :=
 gd (room ([] : (List (Nat × Nat))) a) (some a)
noncomputable def dP (a : (List Int)) : Option ((List Int)) :=
 gd (room ([] : (List Int)) a) (some a)
noncomputable def eP (a : (List ap)) (b : Int) (c : (List ap)) : Option ((List ap)) :=
 gd (oY a b c) (some (ins a b c))
noncomputable def gy (b : cg) (c : ap) (a : (Int)) : Option ((Int) ⊕ (Unit ⊕ (Int × (Option cg)))) :=
 (bif (decide (a < ((b.l).length : Int))) then ((df b.l a).bind fun d => (bif (!((d.ID.Session == c.ID.Session) && (d.ID.Seq == c.ID.Seq))) then ((pH d c).bind fun e => (bif e then (bB (bB (some ((8:Int), (some b))))) else (some (Sum.inl (IntKind.i64.wrap (a + (1:Int))))))) else (some (Sum.inl (IntKind.i64.wrap (a + (1:Int))))))) else (bB (some (Sum.inl ()))))
noncomputable def iH (a : ap) (b : cg) (i : Unit) : Option (Int × (Option cg)) :=
 ((eB a.Gets).bind fun d => ((eL a.Scans).bind fun e => ((eB a.Puts).bind fun f => ((dP a.Data).bind fun g => ((fK (some b) a.ID).bind fun c => (bif c.2 then ((df b.l c.1).bind fun j => (some ((0:Int), (some ({ l := (b.l.set c.1.toNat ({ a with Gets := d, Scans := e, Puts := f, Data := g } : ap)) } : cg))))) else ((eP b.l c.1 ([({ a with Gets := d, Scans := e, Puts := f, Data := g } : ap)])).bind fun h => (some ((0:Int), (some ({ l := h } : cg)))))))))))
noncomputable def gT (c : (Option cg)) (a : ap) : Option (Int × (Option cg)) :=
 (match c with | none => none | some b => (iL (bA (gy b a) (0:Int)) (iH a b)))
noncomputable def en (a : ae) (c : ap) (d : Unit) : Option (Int × (Option ae)) :=
 ((gT a.locks c).bind fun b => (some (b.1, (some ({ a with locks := b.2 } : ae)))))
noncomputable def nj (b : ap) (a : ae) (s : (Int × Int × Int × (List Nat) × (List (Nat × Nat)) × (List Nat) × (List Int) × Bool)) : Option (Int × (Option ae)) :=
 match s with | (d, e, c, f, g, h, i, j) => (iL (bif j then ((oe ({ ID := ({ Session := d, Seq := e } : bO), Epoch := c, Gets := f, Scans := g, Puts := h, Data := i } : ap) b).bind fun k => (bif k then (bB (some ((0:Int), (some a)))) else (bif (decide (b.ID.Session < (9223372036854775808:Int))) then (bB (some ((8:Int), (some a)))) else (bif (decide (b.Epoch ≤ c)) then (bB (some ((8:Int), (some a)))) else (some (Sum.inl ())))))) else (bif (b.Epoch != a.epoch) then (bB (some ((9:Int), (some a)))) else (some (Sum.inl ())))) (en a b))
noncomputable def jz (d : (Option ae)) (b : ap) : Option (Int × (Option ae)) :=
 (match d with | none => none | some c => ((((gC c.locks b.ID).bind fun a => (some (a.1.ID.Session, a.1.ID.Seq, a.1.Epoch, a.1.Gets, a.1.Scans, a.1.Puts, a.1.Data, a.2)))).bind (nj b c)))
noncomputable def gK (c : cP) (d : Int) (s : (Int × Int)) : Option ((Int × Int) ⊕ (Int)) :=
 match s with | (a, b) => (bif (decide (a < b)) then (((df c.rows (IntKind.i64.wrap (fw .u64 (IntKind.u64.wrap (IntKind.i64.wrap (a + b))) (1:Int)))).bind fun e => (some (decide (e.rank ≥ d)))).bind fun f => (bif (!f) then (some (Sum.inl ((IntKind.i64.wrap ((IntKind.i64.wrap (fw .u64 (IntKind.u64.wrap (IntKind.i64.wrap (a + b))) (1:Int))) + (1:Int))), b))) else (some (Sum.inl (a, (IntKind.i64.wrap (fw .u64 (IntKind.u64.wrap (IntKind.i64.wrap (a + b))) (1:Int)))))))) else (bB (some a)))
noncomputable def gD (d : (Option cP)) (c : Int) : Option (Int × Bool) :=
 (match d with | none => none | some a => ((bA (gK a c) ((0:Int), ((a.rows).length : Int))).bind fun b => (bif (decide (b < ((a.rows).length : Int))) then ((df a.rows b).bind fun e => (some (b, (e.rank == c)))) else (some (b, false)))))
noncomputable def pi (c : (List aY)) (d : Int) (s : (Int × Int)) : Option ((Int × Int) ⊕ (Int)) :=
 match s with | (a, b) => (bif (decide (a < b)) then (((df c (IntKind.i64.wrap (fw .u64 (IntKind.u64.wrap (IntKind.i64.wrap (a + b))) (1:Int)))).bind fun e => (some (decide (e.Epoch > d)))).bind fun f => (bif (!f) then (some (Sum.inl ((IntKind.i64.wrap ((IntKind.i64.wrap (fw .u64 (IntKind.u64.wrap (IntKind.i64.wrap (a + b))) (1:Int))) + (1:Int))), b))) else (some (Sum.inl (a, (IntKind.i64.wrap (fw .u64 (IntKind.u64.wrap (IntKind.i64.wrap (a + b))) (1:Int)))))))) else (bB (some a)))
noncomputable def og (a : (List aY)) (d : Int) : Option (ct) :=
 ((bA (pi a d) ((0:Int), ((a).length : Int))).bind fun b => (bif (b == (0:Int)) then (some ({ Has := false, Val := [] } : ct)) else ((df a (IntKind.i64.wrap (b - (1:Int)))).bind fun c => (bif c.Del then (some ({ Has := false, Val := [] } : ct)) else ((dP c.Val).bind fun e => (some ({ Has := true, Val := e } : ct)))))))
noncomputable def ea (c : (Option cP)) (d : Nat) (e : Int) : Option (ct) :=
 (match c with | none => none | some a => ((eT d).bind fun f => ((gD (some a) f).bind fun b => (bif (!b.2) then (some ({ Has := false, Val := [] } : ct)) else ((df a.rows b.1).bind fun g => ((og g.l e).bind fun h => (some h)))))))
noncomputable def jJ (a : Int) : Option (Nat) :=
 (bif ((fw .u64 a (63:Int)) == (1:Int)) then (some (Int.toNat (tM .u64 a (9223372036854775808:Int)))) else (some (Int.toNat (xp .u64 ((18446744073709551615):Int) a))))
noncomputable def gU (e : cP) (g : Nat) (h i : Int) (s : ((List bQ) × Int)) : Option (((List bQ) × Int) ⊕ ((List bQ))) :=
 match s with | (a, b) => (bif (decide (b < ((e.rows).length : Int))) then ((df e.rows b).bind fun c => ((eT g).bind fun j => (bif (decide (c.rank ≤ j)) then (bif (decide (((a).length : Int) < h)) then ((og c.l i).bind fun d => (bif d.Has then ((jJ c.rank).bind fun f => (gd (room a ([({ At := f, Val := d.Val } : bQ)])) (some (Sum.inl ((a ++ ([({ At := f, Val := d.Val } : bQ)])), (IntKind.i64.wrap (b + (1:Int)))))))) else (some (Sum.inl (a, (IntKind.i64.wrap (b + (1:Int)))))))) else (bB (some a))) else (bB (some a))))) else (bB (some a)))
noncomputable def fx (b : (Option cP)) (c d : Nat) (e f : Int) : Option ((List bQ)) :=
 (match b with | none => none | some a => ((eT c).bind fun g => ((gD (some a) g).bind fun h => (bA (gU a d f e) ([], h.1)))))
noncomputable def gY (c : ap) (e : ae) (s : ((List ct) × Int)) : Option (((List ct) × Int) ⊕ ((List ct))) :=
 match s with | (a, b) => (bif (decide (b < ((c.Gets).length : Int))) then ((df c.Gets b).bind fun f => ((ea e.store f (18446744073709551615:Int)).bind fun d => (gd (room a ([d])) (some (Sum.inl ((a ++ ([d])), (IntKind.i64.wrap (b + (1:Int))))))))) else (bB (some a)))
noncomputable def fD (c : ap) (f : ae) (g : (List ct)) (s : ((List (List bQ)) × Int)) : Option (((List (List bQ)) × Int) ⊕ (bw)) :=
 match s with | (a, b) => (bif (decide (b < ((c.Scans).length : Int))) then ((df c.Scans b).bind fun d => ((fx f.store d.1 d.2 (18446744073709551615:Int) (64:Int)).bind fun e => (gd (room a ([e])) (some (Sum.inl ((a ++ ([e])), (IntKind.i64.wrap (b + (1:Int))))))))) else (bB (some ({ E := (0:Int), Epoch := (0:Int), Index := (0:Int), Gots := g, Scans := a } : bw))))
noncomputable def kH (a : ap) (b : ae) (c : ((List ct))) : Option (bw) :=
 (bA (fD a b c) ([], (0:Int)))
noncomputable def jy (c : (Option ae)) (a : ap) : Option (bw) :=
 (match c with | none => none | some b => (((bA (gY a b) ([], (0:Int)))).bind (kH a b)))
noncomputable def jf (c : (Option ae)) (b : aH) : Option (bj × (Option ae)) :=
 ((jz c b.Hold).bind fun a => (bif (a.1 == (0:Int)) then ((jy a.2 b.Hold).bind fun d => (some (({ Kind := (2:Int), ID := b.Hold.ID, R := d } : bj), a.2))) else (some (({ Kind := (2:Int), ID := b.Hold.ID, R := ({ E := a.1, Epoch := (0:Int), Index := (0:Int), Gots := [], Scans := [] } : bw) } : bj), a.2))))
noncomputable def eO (a : (List ap)) (b c : Int) : Option ((List ap)) :=
 gd (fits a b c) (some (del a b c))
noncomputable def iU (c : (Option cg)) (d : bO) : Option (Bool × (Option cg)) :=
 (match c with | none => none | some b => ((fK (some b) d).bind fun a => (bif a.2 then ((eO b.l a.1 (IntKind.i64.wrap (a.1 + (1:Int)))).bind fun e => (some (a.2, (some ({ l := e } : cg))))) else (some (a.2, (some b))))))
noncomputable def ft (a : (List (List Value))) (b : Int) (c : (List (List Value))) : Option ((List (List Value))) :=
 gd (oY a b c) (some (ins a b c))
noncomputable def eN (a : (List bV)) (b : Int) (c : (List bV)) : Option ((List bV)) :=
 gd (oY a b c) (some (ins a b c))
noncomputable def pA (a : aY) (b c : Int) : Option (Bool) :=
 (bif (decide (a.Epoch < b)) then (some true) else (bif (a.Epoch == b) then (some (decide (a.Index < c))) else (some false)))
noncomputable def dN (a : (List aY)) (b : Int) (c : (List aY)) : Option ((List aY)) :=
 gd (oY a b c) (some (ins a b c))
noncomputable def im (d : bV) (c : aY) (s : (Int × Int)) : Option ((Int × Int) ⊕ (Int)) :=
 match s with | (a, b) => (bif (decide (a < b)) then (((df d.l (IntKind.i64.wrap (fw .u64 (IntKind.u64.wrap (IntKind.i64.wrap (a + b))) (1:Int)))).bind fun e => ((pA e c.Epoch c.Index).bind fun f => (some (!f)))).bind fun g => (bif (!g) then (some (Sum.inl ((IntKind.i64.wrap ((IntKind.i64.wrap (fw .u64 (IntKind.u64.wrap (IntKind.i64.wrap (a + b))) (1:Int))) + (1:Int))), b))) else (some (Sum.inl (a, (IntKind.i64.wrap (fw .u64 (IntKind.u64.wrap (IntKind.i64.wrap (a + b))) (1:Int)))))))) else (bB (some a)))
noncomputable def jP (b : bV) (c : Int) (a : aY) (d : (List Int)) (e : cP) (f : (Int × Bool)) (h : Unit) : Option ((Option cP)) :=
 ((dN b.l c ([({ a with Val := d } : aY)])).bind fun g => (some (some ({ rows := (e.rows.set f.1.toNat ({ rank := b.rank, l := g } : bV)) } : cP))))
noncomputable def jH (d : (Int × Bool)) (a : aY) (f : (List Int)) (e : (cP)) : Option ((Option cP)) :=
 ((df e.rows d.1).bind fun b => ((bA (im b a) ((0:Int), ((b.l).length : Int))).bind fun c => (iL (bif (decide (c < ((b.l).length : Int))) then ((df b.l c).bind fun g => (bif (g.Epoch == a.Epoch) then (bif (g.Index == a.Index) then (bB (some (some ({ rows := (e.rows.set d.1.toNat ({ rank := b.rank, l := (b.l.set c.toNat ({ a with Val := f } : aY)) } : bV)) } : cP)))) else (some (Sum.inl ()))) else (some (Sum.inl ())))) else (some (Sum.inl ()))) (jP b c a f e d))))
noncomputable def lG (c : Nat) (a : cP) (d : aY) (e : ((List Int))) : Option ((Option cP)) :=
 ((eT c).bind fun f => ((gD (some a) f).bind fun b => (((bif (!b.2) then ((eT c).bind fun g => ((eN a.rows b.1 ([({ rank := g, l := [] } : bV)])).bind fun h => (some ({ rows := h } : cP)))) else (some a))).bind (jH b d e))))
noncomputable def ie (b : (Option cP)) (c : Nat) (a : aY) : Option ((Option cP)) :=
 (match b with | none => none | some d => ((dP a.Val).bind fun e => (((bif a.Del then (some ([])) else (some e))).bind (lG c d a))))
noncomputable def eV (b : aH) (s : (ae × Int)) : Option ((ae × Int) ⊕ (ae)) :=
 match s with | (a, c) => (bif (decide (c < ((b.Writes).length : Int))) then ((df b.Writes c).bind fun d => ((ie a.store d.At ({ b with Del := d.Del, Val := d.Val } : aY)).bind fun e => (some (Sum.inl (({ a with store := e } : ae), (IntKind.i64.wrap (c + (1:Int)))))))) else (bB (some a)))
noncomputable def lN (a : aH) (b : (ae)) : Option (bj × (Option ae)) :=
 (some (({ Kind := (3:Int), ID := a.ID, R := bK } : bj), (some b)))
noncomputable def ir (d : (Option ae)) (b : aH) : Option (bj × (Option ae)) :=
 (match d with | none => none | some a => ((((iU a.locks b.ID).bind fun c => (bif c.1 then (bif (b.E == (0:Int)) then (bA (eV b) (({ a with locks := c.2 } : ae), (0:Int))) else (some ({ a with locks := c.2 } : ae))) else (some ({ a with locks := c.2 } : ae))))).bind (lN b)))
noncomputable def fL (a : aQ) (b : Int) : Option (Int) :=
 ((dB a.session b).bind fun c => (some c))
noncomputable def fp (c : cm) (d : Int) (s : (Int × Int)) : Option ((Int × Int) ⊕ (Int)) :=
 match s with | (b, a) => (bif (decide (a < b)) then ((df c.l (IntKind.i64.wrap (fw .u64 (IntKind.u64.wrap (IntKind.i64.wrap (a + b))) (1:Int)))).bind fun e => ((fL e d).bind fun f => (bif (decide (f < (0:Int))) then (some (Sum.inl (b, (IntKind.i64.wrap ((IntKind.i64.wrap (fw .u64 (IntKind.u64.wrap (IntKind.i64.wrap (a + b))) (1:Int))) + (1:Int)))))) else (some (Sum.inl ((IntKind.i64.wrap (fw .u64 (IntKind.u64.wrap (IntKind.i64.wrap (a + b))) (1:Int))), a)))))) else (bB (some a)))
noncomputable def jq (b : cm) (c : Int) (a : (Int)) : Option (Int × Bool) :=
 (bif (decide (a < ((b.l).length : Int))) then ((df b.l a).bind fun d => ((fL d c).bind fun e => (some (a, (e == (0:Int)))))) else (some (a, false)))
noncomputable def eR (c : (Option cm)) (b : Int) : Option (Int × Bool) :=
 (match c with | none => none | some a => ((((bA (fp a b) (((a.l).length : Int), (0:Int)))).bind (jq a b)).bind fun (d, e) => (some (d, e))))
noncomputable def dW (a : (List aQ)) (b : Int) (c : (List aQ)) : Option ((List aQ)) :=
 gd (oY a b c) (some (ins a b c))
noncomputable def hK (b : (Int × Bool)) (c : Int) (e : bw) (d : (cm)) : Option (Int × (Option cm)) :=
 ((df d.l b.1).bind fun a => (some ((0:Int), (some ({ l := ((d.l.set b.1.toNat ({ a with seq := c } : aQ)).set b.1.toNat ({ session := ({ a with seq := c } : aQ).session, seq := ({ a with seq := c } : aQ).seq, r := e } : aQ)) } : cm)))))
noncomputable def hQ (a : (Int × Bool)) (b : cm) (c d : Int) (e : bw) (g : Unit) : Option (Int × (Option cm)) :=
 (((bif (!a.2) then ((dW b.l a.1 ([({ session := c, seq := (0:Int), r := bK } : aQ)])).bind fun f => (some ({ l := f } : cm))) else (some b))).bind (hK a d e))
noncomputable def fk (e : (Option cm)) (d b : Int) (f : bw) : Option (Int × (Option cm)) :=
 (match e with | none => none | some a => (bif (b == (0:Int)) then (some ((1:Int), (some a))) else ((eR (some a) d).bind fun c => (iL (bif c.2 then ((df a.l c.1).bind fun g => (bif (decide (g.seq ≥ b)) then (bB (some ((10:Int), (some a)))) else (some (Sum.inl ())))) else (some (Sum.inl ()))) (hQ c a d b f)))))
noncomputable def eu (c : (Option cm)) (d : Int) : Option (Int) :=
 (match c with | none => none | some a => ((eR (some a) d).bind fun b => (bif (!b.2) then (some (0:Int)) else ((df a.l b.1).bind fun e => (some e.seq)))))
noncomputable def iG (b : (Option ae)) (a : bO) : Option (bj) :=
 (match b with | none => none | some c => ((eu c.last a.Session).bind fun d => (bif (decide (d ≤ a.Seq)) then (some bL) else (some ({ Kind := (4:Int), ID := a, R := ({ E := (10:Int), Epoch := (0:Int), Index := (0:Int), Gots := [], Scans := [] } : bw) } : bj)))))
noncomputable def dZ (a : (List ee)) : Option ((List ee)) :=
 gd (room ([] : (List ee)) a) (some a)
noncomputable def ij (a : bC) (b : bO) : Option (Int) :=
 ((dB a.ID.Session b.Session).bind fun c => ((dB a.ID.Seq b.Seq).bind fun d => ((nY ([c, d])).bind fun e => (some e))))
noncomputable def gN (c : ae) (d : bO) (s : (Int × Int)) : Option ((Int × Int) ⊕ (Int)) :=
 match s with | (b, a) => (bif (decide (a < b)) then ((df c.open_ (IntKind.i64.wrap (fw .u64 (IntKind.u64.wrap (IntKind.i64.wrap (a + b))) (1:Int)))).bind fun e => ((ij e d).bind fun f => (bif (decide (f < (0:Int))) then (some (Sum.inl (b, (IntKind.i64.wrap ((IntKind.i64.wrap (fw .u64 (IntKind.u64.wrap (IntKind.i64.wrap (a + b))) (1:Int))) + (1:Int)))))) else (some (Sum.inl ((IntKind.i64.wrap (fw .u64 (IntKind.u64.wrap (IntKind.i64.wrap (a + b))) (1:Int))), a)))))) else (bB (some a)))
noncomputable def kC (b : ae) (c : bO) (a : (Int)) : Option (Int × Bool) :=
 (bif (decide (a < ((b.open_).length : Int))) then ((df b.open_ a).bind fun d => ((ij d c).bind fun e => (some (a, (e == (0:Int)))))) else (some (a, false)))
noncomputable def gG (c : (Option ae)) (b : bO) : Option (Int × Bool) :=
 (match c with | none => none | some a => ((((bA (gN a b) (((a.open_).length : Int), (0:Int)))).bind (kC a b)).bind fun (d, e) => (some (d, e))))
noncomputable def dr (a : (List bC)) (b : Int) (c : (List bC)) : Option ((List bC)) :=
 gd (oY a b c) (some (ins a b c))
noncomputable def jM (a : ae) (b : (Int × (Option cm))) (c : aH) (d e : Int) (f : ((List ee))) : Option (ae) :=
 ((gG (some ({ a with last := b.2 } : ae)) c.ID).bind fun g => ((dr (({ a with last := b.2 } : ae).open_) g.1 ([({ c with E := d, Index := e, Parts := f } : bC)])).bind fun h => (some ({ wide := ({ a with last := b.2 } : ae).wide, epoch := ({ a with last := b.2 } : ae).epoch, store := ({ a with last := b.2 } : ae).store, locks := ({ a with last := b.2 } : ae).locks, last := ({ a with last := b.2 } : ae).last, book := ({ a with last := b.2 } : ae).book, open_ := h, out := ({ a with last := b.2 } : ae).out, used := ({ a with last := b.2 } : ae).used } : ae))))
noncomputable def jA (a : aH) (b c : Int) (d : (List ct)) (e : (List (List bQ))) (f : (ae)) : Option (bj × (Option ae)) :=
 (some (({ Kind := (4:Int), ID := a.ID, R := ({ E := b, Epoch := a.Epoch, Index := c, Gots := d, Scans := e } : bw) } : bj), (some f)))
noncomputable def jG (a : ae) (b : aH) (d e : Int) (f : (List ct)) (g : (List (List bQ))) (j : Unit) : Option (bj × (Option ae)) :=
 ((fk a.last b.ID.Session b.ID.Seq ({ E := d, Epoch := b.Epoch, Index := e, Gots := f, Scans := g } : bw)).bind fun c => (bif (c.1 != (0:Int)) then ((iG (some ({ a with last := c.2 } : ae)) b.ID).bind fun h => (some (h, (some ({ a with last := c.2 } : ae))))) else (((bif (b.Shards != (0:Int)) then (((bif (d == (0:Int)) then ((dZ b.Parts).bind fun i => (some i)) else (some ([])))).bind (jM a c b d e)) else (some ({ a with last := c.2 } : ae)))).bind (jA b d e f g))))
noncomputable def ic (a : aH) (b : ae) (d : Int) (s : (Int × (List ct) × (List (List bQ)))) : Option (bj × (Option ae)) :=
 match s with | (c, e, f) => (iL (bif (c != (0:Int)) then (bif (decide (a.ID.Session ≥ (9223372036854775808:Int))) then (bB (some (bL, (some b)))) else (some (Sum.inl ()))) else (some (Sum.inl ()))) (jG b a c d e f))
noncomputable def fX (c : (Option ae)) (d : Int) (a : aH) : Option (bj × (Option ae)) :=
 (match c with | none => none | some b => (((bif (a.R.E == (0:Int)) then (bif (a.Epoch != b.epoch) then (some ((9:Int), [], [])) else (some (a.R.E, a.R.Gots, a.R.Scans))) else (some (a.R.E, a.R.Gots, a.R.Scans)))).bind (ic a b d)))
noncomputable def dt (a : (List bC)) (b c : Int) : Option ((List bC)) :=
 gd (fits a b c) (some (del a b c))
noncomputable def fq (f : cA) (g e : Int) (s : (cA × Int × Bool)) : Option ((cA × Int × Bool) ⊕ (Bool × (Option cA))) :=
 match s with | (b, a, d) => (bif (decide (a < ((f.l).length : Int))) then ((df b.l a).bind fun c => (bif (c.r.ID == g) then (bif (c.to_ == (0:Int)) then (some (Sum.inl (({ l := (b.l.set a.toNat ({ c with to_ := (if (1:Int) > e then (1:Int) else e) } : dg)) } : cA), (IntKind.i64.wrap (a + (1:Int))), true))) else (some (Sum.inl (b, (IntKind.i64.wrap (a + (1:Int))), d)))) else (some (Sum.inl (b, (IntKind.i64.wrap (a + (1:Int))), d))))) else (bB (some (d, (some b)))))
noncomputable def eS (b : (Option cA)) (c d : Int) : Option (Bool × (Option cA)) :=
 (match b with | none => none | some a => (bA (fq a c d) (a, (0:Int), false)))
noncomputable def fT (d : (Option cA)) (a : du) (b : Int) : Option ((Option cA)) :=
 (match d with | none => none | some e => ((eS (some e) a.ID b).bind fun f => (match f.2 with | none => none | some c => (gd (room c.l ([({ r := a, from_ := b, to_ := (0:Int) } : dg)])) (some (some ({ l := (c.l ++ ([({ r := a, from_ := b, to_ := (0:Int) } : dg)])) } : cA)))))))
noncomputable def ik (a : cn) (b : Int) : Option (Int) :=
 ((dB a.jT b).bind fun c => (some c))
noncomputable def dM (a : (List cn)) (b : Int) (c : (List cn)) : Option ((List cn)) :=
 gd (oY a b c) (some (ins a b c))
noncomputable def qi (a : bR) (b : ((List Int))) : Option (bR) :=
 (some ({ a with Val := b } : bR))
noncomputable def rU (b : bR) (a : Int) : Option (bR) :=
 (gd (Co (if (0:Int) > a then (0:Int) else a) (if (0:Int) > a then (0:Int) else a)) (((bif b.Del then (some ([])) else (some (cpy (List.replicate (Int.toNat (if (0:Int) > a then (0:Int) else a)) (0:Int)) b.Val)))).bind (qi b)))
noncomputable def fJ (c : ae) (d : aH) (s : (Int × Int)) : Option ((Int × Int) ⊕ (Int)) :=
 match s with | (b, a) => (bif (decide (a < b)) then ((df c.used (IntKind.i64.wrap (fw .u64 (IntKind.u64.wrap (IntKind.i64.wrap (a + b))) (1:Int)))).bind fun e => ((ik e d.Rule.ID).bind fun f => (bif (decide (f < (0:Int))) then (some (Sum.inl (b, (IntKind.i64.wrap ((IntKind.i64.wrap (fw .u64 (IntKind.u64.wrap (IntKind.i64.wrap (a + b))) (1:Int))) + (1:Int)))))) else (some (Sum.inl ((IntKind.i64.wrap (fw .u64 (IntKind.u64.wrap (IntKind.i64.wrap (a + b))) (1:Int))), a)))))) else (bB (some a)))
noncomputable def jd (b : ae) (c : aH) (a : (Int)) : Option (Int × Bool) :=
 (bif (decide (a < ((b.used).length : Int))) then ((df b.used a).bind fun d => ((ik d c.Rule.ID).bind fun e => (some (a, (e == (0:Int)))))) else (some (a, false)))
noncomputable def gX (d : ae) (e : aH) (s : (Int × (List cR))) : Option ((Int × (List cR)) ⊕ ((List cR))) :=
 match s with | (a, b) => (bif (decide (a < ((d.out).length : Int))) then ((df d.out a).bind fun c => (bif (c.To == e.Rule.To) then (gd (room b ([c])) (some (Sum.inl ((IntKind.i64.wrap (a + (1:Int))), (b ++ ([c])))))) else (some (Sum.inl ((IntKind.i64.wrap (a + (1:Int))), b))))) else (bB (some b)))
noncomputable def kE (d : Int) (b : aH) (g : Int) (a : (ae)) : Option (ae) :=
 ((df a.used d).bind fun c => ((df b.Writes (0:Int)).bind fun h => ((bA (gX a b) ((0:Int), [])).bind fun e => ((rU h a.wide).bind fun f => (gd (room a.out ([({ To := b.Rule.To, N := (IntKind.u64.wrap (IntKind.i64.wrap (((e).length : Int) + (1:Int)))), Rule := b.Rule.ID, Epoch := b.Epoch, W := f } : cR)])) (some ({ a with out := (a.out ++ ([({ To := b.Rule.To, N := (IntKind.u64.wrap (IntKind.i64.wrap (((e).length : Int) + (1:Int)))), Rule := b.Rule.ID, Epoch := b.Epoch, W := f } : cR)])), used := ((a.used.set d.toNat ({ c with epoch := b.Epoch } : cn)).set d.toNat ({ jT := ({ c with epoch := b.Epoch } : cn).jT, epoch := ({ c with epoch := b.Epoch } : cn).epoch, n := (IntKind.i64.wrap (g + (1:Int))) } : cn)) } : ae)))))))
noncomputable def kL (a : aH) (b c : Int) (d : (ae)) : Option (bj × (Option ae)) :=
 (some (({ Kind := (4:Int), ID := a.ID, R := ({ E := b, Epoch := a.Epoch, Index := c, Gots := [], Scans := [] } : bw) } : bj), (some d)))
noncomputable def jm (a : ae) (b : aH) (e : Int) (g : Bool) (f h : Int) (d : (Int)) : Option (bj × (Option ae)) :=
 ((fk a.last b.ID.Session b.ID.Seq ({ E := d, Epoch := b.Epoch, Index := e, Gots := [], Scans := [] } : bw)).bind fun c => (bif (c.1 != (0:Int)) then ((iG (some ({ a with last := c.2 } : ae)) b.ID).bind fun i => (some (i, (some ({ a with last := c.2 } : ae))))) else (((bif (d == (0:Int)) then (((bif (!g) then ((dM a.used f ([({ jT := b.Rule.ID, epoch := (0:Int), n := (0:Int) } : cn)])).bind fun j => (some ({ a with last := c.2, used := j } : ae))) else (some ({ a with last := c.2 } : ae)))).bind (kE f b h)) else (some ({ a with last := c.2 } : ae)))).bind (kL b d e))))
noncomputable def kN (a : aH) (b : ae) (d : Int) (e : Bool) (f : Int) (c : (Int)) : Option (bj × (Option ae)) :=
 (((bif (a.R.E != (0:Int)) then (some a.R.E) else (bif (a.Epoch != b.epoch) then (some (9:Int)) else (bif (((a.Writes).length : Int) != (1:Int)) then (some (1:Int)) else (bif (decide (c ≥ a.Rule.Quota)) then (some (13:Int)) else (some a.R.E)))))).bind (jm b a d e f c))
noncomputable def iC (f : (Option ae)) (g : Int) (b : aH) : Option (bj × (Option ae)) :=
 (match f with | none => none | some a => ((((bA (fJ a b) (((a.used).length : Int), (0:Int)))).bind (jd a b)).bind fun (c, d) => (((bif d then ((df a.used c).bind fun e => (bif (e.epoch == b.Epoch) then (some e.n) else (some (0:Int)))) else (some (0:Int)))).bind (kN b a g d c))))
noncomputable def cv (j : (Option ae)) (d : Int) (b : aH) : Option (bj × (Option ae)) :=
 (match j with | none => none | some a => (bif (b.Kind == (1:Int)) then ((iy (some a) b).bind fun e => (match e.2 with | none => none | some k => (some (e.1, (some k))))) else (bif (b.Kind == (2:Int)) then ((jf (some a) b).bind fun f => (match f.2 with | none => none | some l => (some (f.1, (some l))))) else (bif (b.Kind == (3:Int)) then ((ir (some a) b).bind fun g => (match g.2 with | none => none | some m => (some (g.1, (some m))))) else (bif (b.Kind == (4:Int)) then ((fX (some a) d b).bind fun h => (match h.2 with | none => none | some n => (some (h.1, (some n))))) else (bif (b.Kind == (5:Int)) then ((gG (some a) b.ID).bind fun c => (bif c.2 then ((dt a.open_ c.1 (IntKind.i64.wrap (c.1 + (1:Int)))).bind fun o => (some (bL, (some ({ a with open_ := o } : ae))))) else (some (bL, (some a))))) else (bif (b.Kind == (6:Int)) then (bif b.On then ((fT a.book b.Rule a.epoch).bind fun p => (some (bL, (some ({ a with book := p } : ae))))) else ((eS a.book b.Rule.ID a.epoch).bind fun q => (some (bL, (some ({ a with book := q.2 } : ae)))))) else (bif (b.Kind == (7:Int)) then ((iC (some a) d b).bind fun i => (match i.2 with | none => none | some s => (some (i.1, (some s))))) else (some (bL, (some a)))))))))))
noncomputable def iQ (a : (Option ae)) : Option (Int) :=
 (match a with | none => none | some b => (some b.epoch))
noncomputable def lV : Option (Bool) :=
 ((qE (4:Int)).bind fun b => ((cv (some b) (1:Int) ({ Kind := (1:Int), ID := ({ Session := (0:Int), Seq := (0:Int) } : bO), Epoch := (1:Int), Index := (0:Int), E := (0:Int), Hold := ef, Writes := [], R := bK, Shards := (0:Int), Parts := [], Rule := eE, On := false } : aH)).bind fun a => (match a.2 with | none => none | some c => (bif (a.1.Kind == (1:Int)) then ((iQ (some c)).bind fun d => (bif (d == (2:Int)) then (some true) else none)) else none))))
noncomputable def sv (a : Int) : Option (aj) :=
 (some ({ Wide := a, Epoch := (1:Int), V := [], H := [], A := [], B := [], Open := [], Out := [], Used := [] } : aj))
noncomputable def aK (a : ao) (b : Int) : Option (Int × ao) :=
 (bif (decide (a.I ≥ ((a.L).length : Int))) then (some ((0:Int), a)) else ((df a.L (IntKind.i64.wrap ((IntKind.i64.wrap (a.I + (1:Int))) - (1:Int)))).bind fun c => (gd (!(b == (0:Int))) (some ((Int.tmod (IntKind.i64.wrap c) b), ({ L := a.L, I := (IntKind.i64.wrap (a.I + (1:Int))) } : ao))))))
noncomputable def eG (c : ao) : Option (bO × ao) :=
 ((aK c (4:Int)).bind fun a => ((aK a.2 (4:Int)).bind fun b => (some (({ Session := (IntKind.u64.wrap a.1), Seq := (IntKind.u64.wrap (IntKind.i64.wrap ((1:Int) + b.1))) } : bO), b.2))))
noncomputable def qb (a : Int) : Option (Nat) :=
 ((df ([(0:Nat), (4607182418800017408:Nat), (13830554455654793216:Nat), (4612811918334230528:Nat), (9094988921128908188:Nat), (18318360957983683996:Nat), (4602678819172646912:Nat), (4613937818241073152:Nat)]) (Int.tmod a (8:Int))).bind fun b => (some b))
noncomputable def cV (b : ao) : Option (Nat × ao) :=
 ((aK b (8:Int)).bind fun a => ((qb (IntKind.u8.wrap a.1)).bind fun c => (some (c, a.2))))
noncomputable def fP (e : (Int × ao)) (s : (ao × (List Int) × Int)) : Option ((ao × (List Int) × Int) ⊕ ((List Int) × ao)) :=
 match s with | (c, a, d) => (bif (decide (d < e.1)) then ((aK c (26:Int)).bind fun b => (gd (room a ([(IntKind.u8.wrap (IntKind.i64.wrap ((97:Int) + b.1)))])) (some (Sum.inl (b.2, (a ++ ([(IntKind.u8.wrap (IntKind.i64.wrap ((97:Int) + b.1)))])), (IntKind.i64.wrap (d + (1:Int)))))))) else (bB (some (a, c))))
noncomputable def eQ (b : ao) : Option ((List Int) × ao) :=
 ((aK b (4:Int)).bind fun a => (bA (fP a) (a.2, [], (0:Int))))
noncomputable def fG (e : (Int × ao)) (s : ((List Nat) × ao × Int)) : Option (((List Nat) × ao × Int) ⊕ (ao × (List Nat))) :=
 match s with | (a, c, d) => (bif (decide (d < e.1)) then ((cV c).bind fun b => (gd (room a ([b.1])) (some (Sum.inl ((a ++ ([b.1])), b.2, (IntKind.i64.wrap (d + (1:Int)))))))) else (bB (some (c, a))))
noncomputable def fC (f : (Int × ao)) (s : ((List (Nat × Nat)) × ao × Int)) : Option (((List (Nat × Nat)) × ao × Int) ⊕ (ao × (List (Nat × Nat)))) :=
 match s with | (a, d, e) => (bif (decide (e < (IntKind.i64.wrap (Int.tdiv f.1 (2:Int))))) then ((cV d).bind fun b => ((cV b.2).bind fun c => (gd (room a ([(b.1, c.1)])) (some (Sum.inl ((a ++ ([(b.1, c.1)])), c.2, (IntKind.i64.wrap (e + (1:Int))))))))) else (bB (some (d, a))))
noncomputable def fF (e : (Int × ao)) (s : ((List Nat) × ao × Int)) : Option (((List Nat) × ao × Int) ⊕ (ao × (List Nat))) :=
 match s with | (a, c, d) => (bif (decide (d < e.1)) then ((cV c).bind fun b => (gd (room a ([b.1])) (some (Sum.inl ((a ++ ([b.1])), b.2, (IntKind.i64.wrap (d + (1:Int)))))))) else (bB (some (c, a))))
noncomputable def mY (b : (bO × ao)) (c : (Int × ao)) (d : (List Nat)) (e : (List (Nat × Nat))) (s : (ao × (List Nat))) : Option (ap × ao) :=
 match s with | (h, f) => ((aK h (4:Int)).bind fun a => (bif (a.1 == (0:Int)) then ((eQ a.2).bind fun g => (some (({ ID := b.1, Epoch := (IntKind.u64.wrap (IntKind.i64.wrap ((1:Int) + c.1))), Gets := d, Scans := e, Puts := f, Data := g.1 } : ap), g.2))) else (some (({ ID := b.1, Epoch := (IntKind.u64.wrap (IntKind.i64.wrap ((1:Int) + c.1))), Gets := d, Scans := e, Puts := f, Data := [] } : ap), a.2))))
noncomputable def ng (b : (bO × ao)) (c : (Int × ao)) (d : (List Nat)) (s : (ao × (List (Nat × Nat)))) : Option (ap × ao) :=
 match s with | (e, f) => ((aK e (3:Int)).bind fun a => (((bA (fF a) ([], a.2, (0:Int)))).bind (mY b c d f)))
noncomputable def nf (b : (bO × ao)) (c : (Int × ao)) (s : (ao × (List Nat))) : Option (ap × ao) :=
 match s with | (d, e) => ((aK d (3:Int)).bind fun a => (((bA (fC a) ([], a.2, (0:Int)))).bind (ng b c e)))
noncomputable def iA (d : ao) : Option (ap × ao) :=
 ((eG d).bind fun a => ((aK a.2 (4:Int)).bind fun b => ((aK b.2 (3:Int)).bind fun c => (((bA (fG c) ([], c.2, (0:Int)))).bind (nf a b)))))
noncomputable def nB (a : (List bR)) (b : (Nat × ao)) (c : (Int × ao)) (e : Int) (s : (ao × (List Int))) : Option ((ao × (List bR) × Int) ⊕ ((List bR) × ao)) :=
 match s with | (f, d) => (gd (room a ([({ At := b.1, Del := (c.1 == (0:Int)), Val := d } : bR)])) (some (Sum.inl (f, (a ++ ([({ At := b.1, Del := (c.1 == (0:Int)), Val := d } : bR)])), (IntKind.i64.wrap (e + (1:Int)))))))
noncomputable def fQ (g : (Int × ao)) (s : (ao × (List bR) × Int)) : Option ((ao × (List bR) × Int) ⊕ ((List bR) × ao)) :=
 match s with | (b, c, d) => (bif (decide (d < g.1)) then ((cV b).bind fun e => ((aK e.2 (4:Int)).bind fun a => (((bif (!(a.1 == (0:Int))) then ((eQ a.2).bind fun f => (some (f.2, f.1))) else (some (a.2, [])))).bind (nB c e a d)))) else (bB (some (c, b))))
noncomputable def fv (b : ao) : Option ((List bR) × ao) :=
 ((aK b (3:Int)).bind fun a => (bA (fQ a) (a.2, [], (0:Int))))
noncomputable def gR (f : (Int × ao)) (s : ((List ct) × ao × Int)) : Option (((List ct) × ao × Int) ⊕ (ao × (List ct))) :=
 match s with | (a, d, e) => (bif (decide (e < f.1)) then ((aK d (2:Int)).bind fun b => ((eQ b.2).bind fun c => (gd (room a ([({ Has := (b.1 == (0:Int)), Val := c.1 } : ct)])) (some (Sum.inl ((a ++ ([({ Has := (b.1 == (0:Int)), Val := c.1 } : ct)])), c.2, (IntKind.i64.wrap (e + (1:Int))))))))) else (bB (some (d, a))))
noncomputable def gL (f : (Int × ao)) (s : (ao × Int × (List bQ))) : Option ((ao × Int × (List bQ)) ⊕ (ao × (List bQ))) :=
 match s with | (d, e, a) => (bif (decide (e < f.1)) then ((cV d).bind fun b => ((eQ b.2).bind fun c => (gd (room a ([({ At := b.1, Val := c.1 } : bQ)])) (some (Sum.inl (c.2, (IntKind.i64.wrap (e + (1:Int))), (a ++ ([({ At := b.1, Val := c.1 } : bQ)])))))))) else (bB (some (d, a))))
noncomputable def om (a : (List (List bQ))) (c : Int) (s : (ao × (List bQ))) : Option (((List (List bQ)) × ao × Int) ⊕ (bw × ao)) :=
 match s with | (d, b) => (gd (room a ([b])) (some (Sum.inl ((a ++ ([b])), d, (IntKind.i64.wrap (c + (1:Int)))))))
noncomputable def gV (e : (Int × ao)) (f g h : Int) (i : (List ct)) (s : ((List (List bQ)) × ao × Int)) : Option (((List (List bQ)) × ao × Int) ⊕ (bw × ao)) :=
 match s with | (a, b, c) => (bif (decide (c < (IntKind.i64.wrap (Int.tdiv e.1 (2:Int))))) then ((aK b (3:Int)).bind fun d => (((bA (gL d) (d.2, (0:Int), []))).bind (om a c))) else (bB (some (({ E := f, Epoch := g, Index := h, Gots := i, Scans := a } : bw), b))))
noncomputable def od (b c d : Int) (s : (ao × (List ct))) : Option (bw × ao) :=
 match s with | (e, f) => ((aK e (3:Int)).bind fun a => (bA (gV a b c d f) ([], a.2, (0:Int))))
noncomputable def mh (s : (ao × Int × Int × Int)) : Option (bw × ao) :=
 match s with | (b, c, d, e) => ((aK b (3:Int)).bind fun a => (((bA (gR a) ([], a.2, (0:Int)))).bind (od c d e)))
noncomputable def hH (d : ao) : Option (bw × ao) :=
 ((((aK d (6:Int)).bind fun a => ((df ([(0:Int), (0:Int), (0:Int), (8:Int), (9:Int), (3:Int)]) a.1).bind fun e => ((aK a.2 (4:Int)).bind fun b => ((aK b.2 (9:Int)).bind fun c => (some (c.2, e, (IntKind.u64.wrap b.1), (IntKind.u64.wrap c.1)))))))).bind (mh))
noncomputable def kI (h : ao) : Option (du × ao) :=
 ((aK h (3:Int)).bind fun a => ((aK a.2 (4:Int)).bind fun b => ((aK b.2 (4:Int)).bind fun c => ((cV c.2).bind fun d => ((cV d.2).bind fun e => ((aK e.2 (2:Int)).bind fun f => ((aK f.2 (3:Int)).bind fun g => (some (({ ID := (IntKind.u64.wrap a.1), From := b.1, To := c.1, Lo := d.1, Hi := e.1, Authority := (IntKind.u64.wrap f.1), Quota := g.1 } : du), g.2)))))))))
noncomputable def dT (e : (Int × ao)) (s : ((List ee) × ao × Int)) : Option (((List ee) × ao × Int) ⊕ (ao × (List ee))) :=
 match s with | (b, d, a) => (bif (decide (a < e.1)) then ((fv d).bind fun c => (gd (room b ([({ Shard := a, Writes := c.1 } : ee)])) (some (Sum.inl ((b ++ ([({ Shard := a, Writes := c.1 } : ee)])), c.2, (IntKind.i64.wrap (a + (1:Int)))))))) else (bB (some (d, b))))
noncomputable def ni (b : (Int × ao)) (c : Int) (d : (bO × ao)) (e f : (Int × ao)) (s : (ao × (List ee))) : Option (aH × ao) :=
 match s with | (g, h) => ((hH g).bind fun a => (some (({ Kind := (IntKind.u8.wrap (IntKind.i64.wrap ((1:Int) + b.1))), ID := ({ Session := c, Seq := d.1.Seq } : bO), Epoch := (IntKind.u64.wrap (IntKind.i64.wrap ((1:Int) + e.1))), Index := (0:Int), E := (0:Int), Hold := ef, Writes := [], R := a.1, Shards := (IntKind.u64.wrap f.1), Parts := h, Rule := eE, On := false } : aH), a.2)))
noncomputable def jg (d : (Int × ao)) (e : (bO × ao)) (s : (ao × Int)) : Option (aH × ao) :=
 match s with | (f, g) => ((aK f (4:Int)).bind fun a => ((aK a.2 (4:Int)).bind fun b => ((aK b.2 (3:Int)).bind fun c => (((bA (dT c) ([], c.2, (0:Int)))).bind (ni d g e a b)))))
noncomputable def eY (t : ao) : Option (aH × ao) :=
 ((aK t (7:Int)).bind fun a => (bif ((IntKind.u8.wrap (IntKind.i64.wrap ((1:Int) + a.1))) == (1:Int)) then ((aK a.2 (4:Int)).bind fun d => (some (({ Kind := (IntKind.u8.wrap (IntKind.i64.wrap ((1:Int) + a.1))), ID := ({ Session := (0:Int), Seq := (0:Int) } : bO), Epoch := (IntKind.u64.wrap (IntKind.i64.wrap ((1:Int) + d.1))), Index := (0:Int), E := (0:Int), Hold := ef, Writes := [], R := bK, Shards := (0:Int), Parts := [], Rule := eE, On := false } : aH), d.2))) else (bif ((IntKind.u8.wrap (IntKind.i64.wrap ((1:Int) + a.1))) == (2:Int)) then ((iA a.2).bind fun e => (some (({ Kind := (IntKind.u8.wrap (IntKind.i64.wrap ((1:Int) + a.1))), ID := ({ Session := (0:Int), Seq := (0:Int) } : bO), Epoch := (0:Int), Index := (0:Int), E := (0:Int), Hold := e.1, Writes := [], R := bK, Shards := (0:Int), Parts := [], Rule := eE, On := false } : aH), e.2))) else (bif ((IntKind.u8.wrap (IntKind.i64.wrap ((1:Int) + a.1))) == (3:Int)) then ((eG a.2).bind fun f => ((aK f.2 (3:Int)).bind fun g => ((df ([(0:Int), (0:Int), (8:Int)]) g.1).bind fun u => ((aK g.2 (4:Int)).bind fun h => ((aK h.2 (20:Int)).bind fun i => ((fv i.2).bind fun j => (some (({ Kind := (IntKind.u8.wrap (IntKind.i64.wrap ((1:Int) + a.1))), ID := f.1, Epoch := (IntKind.u64.wrap (IntKind.i64.wrap ((1:Int) + h.1))), Index := (IntKind.u64.wrap i.1), E := u, Hold := ef, Writes := j.1, R := bK, Shards := (0:Int), Parts := [], Rule := eE, On := false } : aH), j.2)))))))) else (bif ((IntKind.u8.wrap (IntKind.i64.wrap ((1:Int) + a.1))) == (4:Int)) then ((eG a.2).bind fun b => ((((aK b.2 (6:Int)).bind fun c => (bif (c.1 == (0:Int)) then (some (c.2, (IntKind.u64.wrap (b.1.Session + (9223372036854775808:Int))))) else (some (c.2, b.1.Session))))).bind (jg a b))) else (bif ((IntKind.u8.wrap (IntKind.i64.wrap ((1:Int) + a.1))) == (5:Int)) then ((eG a.2).bind fun k => (some (({ Kind := (IntKind.u8.wrap (IntKind.i64.wrap ((1:Int) + a.1))), ID := k.1, Epoch := (0:Int), Index := (0:Int), E := (0:Int), Hold := ef, Writes := [], R := bK, Shards := (0:Int), Parts := [], Rule := eE, On := false } : aH), k.2))) else (bif ((IntKind.u8.wrap (IntKind.i64.wrap ((1:Int) + a.1))) == (6:Int)) then ((kI a.2).bind fun l => ((aK l.2 (3:Int)).bind fun m => (some (({ Kind := (IntKind.u8.wrap (IntKind.i64.wrap ((1:Int) + a.1))), ID := ({ Session := (0:Int), Seq := (0:Int) } : bO), Epoch := (0:Int), Index := (0:Int), E := (0:Int), Hold := ef, Writes := [], R := bK, Shards := (0:Int), Parts := [], Rule := l.1, On := (decide (m.1 > (0:Int))) } : aH), m.2)))) else (bif ((IntKind.u8.wrap (IntKind.i64.wrap ((1:Int) + a.1))) == (7:Int)) then ((eG a.2).bind fun n => ((aK n.2 (4:Int)).bind fun o => ((kI o.2).bind fun p => ((fv p.2).bind fun q => ((hH q.2).bind fun s => (some (({ Kind := (IntKind.u8.wrap (IntKind.i64.wrap ((1:Int) + a.1))), ID := n.1, Epoch := (IntKind.u64.wrap (IntKind.i64.wrap ((1:Int) + o.1))), Index := (0:Int), E := (0:Int), Hold := ef, Writes := q.1, R := s.1, Shards := (0:Int), Parts := [], Rule := p.1, On := false } : aH), s.2))))))) else (some (({ Kind := (IntKind.u8.wrap (IntKind.i64.wrap ((1:Int) + a.1))), ID := ({ Session := (0:Int), Seq := (0:Int) } : bO), Epoch := (0:Int), Index := (0:Int), E := (0:Int), Hold := ef, Writes := [], R := bK, Shards := (0:Int), Parts := [], Rule := eE, On := false } : aH), a.2))))))))))
noncomputable def gQ (a : aj) (b : (Int)) : Option ((Int) ⊕ (Bool)) :=
 (bif (decide (b < ((a.H).length : Int))) then ((df a.H b).bind fun c => (bif (decide (c.Epoch ≤ a.Epoch)) then (bB (some false)) else (some (Sum.inl (IntKind.i64.wrap (b + (1:Int))))))) else (bB (some true)))
noncomputable def iz (a : aj) : Option (Bool) :=
 (bA (gQ a) (0:Int))
noncomputable def lA (c : (List ap)) (d : bO) (a : (Int)) : Option ((Int) ⊕ (ap × Bool)) :=
 (bif (decide (a < ((c).length : Int))) then ((df c a).bind fun b => (bif ((b.ID.Session == d.Session) && (b.ID.Seq == d.Seq)) then (bB (some (b, true))) else (some (Sum.inl (IntKind.i64.wrap (a + (1:Int))))))) else (bB (some (ef, false))))
noncomputable def kO (a : (List ap)) (b : bO) : Option (ap × Bool) :=
 (bA (lA a b) (0:Int))
noncomputable def mr (a : Nat) : Option (Bool) :=
 (some (decide ((IntKind.i64.wrap (Int.ofNat a)) < (0:Int))))
noncomputable def nP (a b : Nat) (c : Unit) : Option (Bool) :=
 (some (fLt a b))
noncomputable def jI (a b : Nat) : Option (Bool) :=
 (bif (fNe a a) then (some false) else (bif (fNe b b) then (some true) else (iL (bif (fEq a (0:Nat)) then (bif (fEq b (0:Nat)) then ((mr a).bind fun c => (bif c then ((mr b).bind fun d => (bB (some (!d)))) else (bB (some false)))) else (some (Sum.inl ()))) else (some (Sum.inl ()))) (nP a b))))
noncomputable def eJ (a b : Nat) : Option (Bool) :=
 ((jI a b).bind fun c => (bif (!c) then ((jI b a).bind fun d => (some (!d))) else (some false)))
noncomputable def fW (b c : ap) (a : (Int)) : Option ((Int) ⊕ (Unit ⊕ (Bool))) :=
 (bif (decide (a < ((b.Gets).length : Int))) then ((df b.Gets a).bind fun d => ((df c.Gets a).bind fun e => ((eJ d e).bind fun f => (bif (!f) then (bB (bB (some false))) else (some (Sum.inl (IntKind.i64.wrap (a + (1:Int))))))))) else (bB (some (Sum.inl ()))))
noncomputable def fU (b e : ap) (a : (Int)) : Option ((Int) ⊕ (Unit ⊕ (Bool))) :=
 (bif (decide (a < ((b.Scans).length : Int))) then ((df b.Scans a).bind fun c => ((df e.Scans a).bind fun d => ((eJ c.1 d.1).bind fun f => (bif (!f) then (bB (bB (some false))) else ((eJ c.2 d.2).bind fun g => (bif (!g) then (bB (bB (some false))) else (some (Sum.inl (IntKind.i64.wrap (a + (1:Int))))))))))) else (bB (some (Sum.inl ()))))
noncomputable def gf (b c : ap) (a : (Int)) : Option ((Int) ⊕ (Bool)) :=
 (bif (decide (a < ((b.Puts).length : Int))) then ((df b.Puts a).bind fun d => ((df c.Puts a).bind fun e => ((eJ d e).bind fun f => (bif (!f) then (bB (some false)) else (some (Sum.inl (IntKind.i64.wrap (a + (1:Int))))))))) else (bB (some true)))
noncomputable def nt (a b : ap) (c : Unit) : Option (Bool) :=
 (bA (gf a b) (0:Int))
noncomputable def lE (a b : ap) (c : Unit) : Option (Bool) :=
 (iL (bA (fU a b) (0:Int)) (nt a b))
noncomputable def ji (a b : ap) : Option (Bool) :=
 (bif (!((a.ID.Session == b.ID.Session) && (a.ID.Seq == b.ID.Seq))) then (some false) else (bif (a.Epoch != b.Epoch) then (some false) else (bif (((a.Gets).length : Int) != ((b.Gets).length : Int)) then (some false) else (bif (((a.Scans).length : Int) != ((b.Scans).length : Int)) then (some false) else (bif (((a.Puts).length : Int) != ((b.Puts).length : Int)) then (some false) else (bif (!(sEq (iZ a.Data) (iZ b.Data))) then (some false) else (iL (bA (fW a b) (0:Int)) (lE a b))))))))
noncomputable def ma (b : (List Nat)) (c : Nat) (a : (Int)) : Option ((Int) ⊕ (Bool)) :=
 (bif (decide (a < ((b).length : Int))) then ((df b a).bind fun d => ((eJ d c).bind fun e => (bif e then (bB (some true)) else (some (Sum.inl (IntKind.i64.wrap (a + (1:Int)))))))) else (bB (some false)))
noncomputable def po (a : (List Nat)) (b : Nat) : Option (Bool) :=
 (bA (ma a b) (0:Int))
noncomputable def jB (a b c : Nat) : Option (Bool) :=
 ((jI a b).bind fun d => (bif (!d) then ((jI c a).bind fun e => (some (!e))) else (some false)))
noncomputable def kg (b : ap) (d : Nat) (a : (Int)) : Option ((Int) ⊕ (Unit ⊕ (Bool))) :=
 (bif (decide (a < ((b.Scans).length : Int))) then ((df b.Scans a).bind fun c => ((jB d c.1 c.2).bind fun e => (bif e then (bB (bB (some true))) else (some (Sum.inl (IntKind.i64.wrap (a + (1:Int)))))))) else (bB (some (Sum.inl ()))))
noncomputable def lR (a : ap) (b : Nat) (d : Unit) : Option (Bool) :=
 ((po a.Gets b).bind fun c => (some c))
noncomputable def nr (a : ap) (b : Nat) : Option (Bool) :=
 (iL (bA (kg a b) (0:Int)) (lR a b))
noncomputable def lm (b c : ap) (a : (Int)) : Option ((Int) ⊕ (Unit ⊕ (Bool))) :=
 (bif (decide (a < ((b.Puts).length : Int))) then ((df b.Puts a).bind fun d => ((po c.Puts d).bind fun e => (bif e then (bB (bB (some true))) else ((nr c d).bind fun f => (bif f then (bB (bB (some true))) else (some (Sum.inl (IntKind.i64.wrap (a + (1:Int)))))))))) else (bB (some (Sum.inl ()))))
noncomputable def lq (b c : ap) (a : (Int)) : Option ((Int) ⊕ (Bool)) :=
 (bif (decide (a < ((b.Puts).length : Int))) then ((df b.Puts a).bind fun d => ((nr c d).bind fun e => (bif e then (bB (some true)) else (some (Sum.inl (IntKind.i64.wrap (a + (1:Int)))))))) else (bB (some false)))
noncomputable def mN (a b : ap) (c : Unit) : Option (Bool) :=
 (bA (lq a b) (0:Int))
noncomputable def pQ (a b : ap) : Option (Bool) :=
 (iL (bA (lm a b) (0:Int)) (mN b a))
noncomputable def ll (d : (List ap)) (e : bO) (s : ((List ap) × Int)) : Option (((List ap) × Int) ⊕ ((List ap))) :=
 match s with | (a, b) => (bif (decide (b < ((d).length : Int))) then ((df d b).bind fun c => (bif (!((c.ID.Session == e.Session) && (c.ID.Seq == e.Seq))) then (gd (room a ([c])) (some (Sum.inl ((a ++ ([c])), (IntKind.i64.wrap (b + (1:Int))))))) else (some (Sum.inl (a, (IntKind.i64.wrap (b + (1:Int)))))))) else (bB (some a)))
noncomputable def oa (a : (List ap)) (b : bO) : Option ((List ap)) :=
 (bA (ll a b) ([], (0:Int)))
noncomputable def lB (b : (List ap)) (c : ap) (a : (Int)) : Option ((Int) ⊕ (Unit ⊕ ((List ap) × Bool))) :=
 (bif (decide (a < ((b).length : Int))) then ((df b a).bind fun d => (bif (!((d.ID.Session == c.ID.Session) && (d.ID.Seq == c.ID.Seq))) then ((pQ d c).bind fun e => (bif e then (bB (bB (some (b, false)))) else (some (Sum.inl (IntKind.i64.wrap (a + (1:Int))))))) else (some (Sum.inl (IntKind.i64.wrap (a + (1:Int))))))) else (bB (some (Sum.inl ()))))
noncomputable def ox (a : ((List ap))) : Option ((List ap) × Bool) :=
 (some (a, true))
noncomputable def mS (c : (List ap)) (a : ap) (d : Unit) : Option ((List ap) × Bool) :=
 ((((oa c a.ID).bind fun b => (gd (room b ([a])) (some (b ++ ([a])))))).bind (ox))
noncomputable def oq (a : (List ap)) (b : ap) : Option ((List ap) × Bool) :=
 (iL (bA (lB a b) (0:Int)) (mS a b))
noncomputable def dY (a : aj) (c : ap) (d : Unit) : Option (Int × aj) :=
 ((oq a.H c).bind fun b => (bif (!b.2) then (some ((8:Int), a)) else (some ((0:Int), ({ a with H := b.1 } : aj)))))
noncomputable def mB (c : Bool) (b : ap) (a : aj) (d : Unit) : Option (Int × aj) :=
 (iL (bif (!c) then (bif (b.Epoch != a.Epoch) then (bB (some ((9:Int), a))) else (some (Sum.inl ()))) else (some (Sum.inl ()))) (dY a b))
noncomputable def mD (c : Bool) (a : ap) (b : aj) (d : Int) (e : Unit) : Option (Int × aj) :=
 (iL (bif c then (bif (decide (a.ID.Session < (9223372036854775808:Int))) then (bB (some ((8:Int), b))) else (bif (decide (a.Epoch ≤ d)) then (bB (some ((8:Int), b))) else (some (Sum.inl ())))) else (some (Sum.inl ()))) (mB c a b))
noncomputable def mA (a : ap) (b : aj) (s : (Int × Int × Int × (List Nat) × (List (Nat × Nat)) × (List Nat) × (List Int) × Bool)) : Option (Int × aj) :=
 match s with | (e, f, c, g, h, i, j, d) => (iL (bif d then ((ji ({ ID := ({ Session := e, Seq := f } : bO), Epoch := c, Gets := g, Scans := h, Puts := i, Data := j } : ap) a).bind fun k => (bif k then (bB (some ((0:Int), b))) else (some (Sum.inl ())))) else (some (Sum.inl ()))) (mD d a b c))
noncomputable def iV (b : aj) (c : ap) : Option (Int × aj) :=
 ((((kO b.H c.ID).bind fun a => (some (a.1.ID.Session, a.1.ID.Seq, a.1.Epoch, a.1.Gets, a.1.Scans, a.1.Puts, a.1.Data, a.2)))).bind (mA c b))
noncomputable def li (d : (List aF)) (f : Nat) (g : Int) (s : (Int × Int)) : Option ((Int × Int) ⊕ (Int)) :=
 match s with | (b, a) => (bif (decide (a < ((d).length : Int))) then ((df d a).bind fun c => ((eJ c.At f).bind fun h => (bif h then (bif (decide (c.Epoch ≤ g)) then (bif (decide (b < (0:Int))) then (some (Sum.inl (a, (IntKind.i64.wrap (a + (1:Int)))))) else ((df d b).bind fun e => (bif (decide (e.Epoch < c.Epoch)) then (some (Sum.inl (a, (IntKind.i64.wrap (a + (1:Int)))))) else (bif (e.Epoch == c.Epoch) then (bif (decide (e.Index < c.Index)) then (some (Sum.inl (a, (IntKind.i64.wrap (a + (1:Int)))))) else (some (Sum.inl (b, (IntKind.i64.wrap (a + (1:Int))))))) else (some (Sum.inl (b, (IntKind.i64.wrap (a + (1:Int)))))))))) else (some (Sum.inl (b, (IntKind.i64.wrap (a + (1:Int))))))) else (some (Sum.inl (b, (IntKind.i64.wrap (a + (1:Int))))))))) else (bB (some b)))
noncomputable def pO (a : (List aF)) (b : Nat) (c : Int) : Option (Int) :=
 (bA (li a b c) (((-1):Int), (0:Int)))
noncomputable def iS (a : (List aF)) (d : Nat) (e : Int) : Option (ct) :=
 ((pO a d e).bind fun b => (bif (decide (b < (0:Int))) then (some ({ Has := false, Val := [] } : ct)) else ((df a b).bind fun c => (bif c.Del then (some ({ Has := false, Val := [] } : ct)) else (some ({ Has := true, Val := c.Val } : ct))))))
noncomputable def kP (b : (List Nat)) (c : (List aF)) (d : Int) (a : (Int)) : Option ((Int) ⊕ (Int)) :=
 (bif (decide (a < ((b).length : Int))) then ((df b a).bind fun e => ((df c d).bind fun f => ((jI e f.At).bind fun g => (bif g then (some (Sum.inl (IntKind.i64.wrap (a + (1:Int))))) else (bB (some a)))))) else (bB (some a)))
noncomputable def kD (a : (List Nat)) (f : (List aF)) (c : Int) (b : (Int)) : Option (((List Nat) × Int) ⊕ ((List Nat))) :=
 (bif (decide (b < ((a).length : Int))) then ((df a b).bind fun g => ((df f c).bind fun d => ((eJ g d.At).bind fun h => (bif h then (some (Sum.inl (a, (IntKind.i64.wrap (c + (1:Int)))))) else (gd (fits a (0:Int) b) (gd (room ([] : List Nat) (lZ a (0:Int) b)) (gd (room (lZ a (0:Int) b) ([d.At])) (gd (fits a b (((a).length : Nat) : Int)) (gd (room ((lZ a (0:Int) b) ++ ([d.At])) (lZ a b (((a).length : Nat) : Int))) (some (Sum.inl ((((lZ a (0:Int) b) ++ ([d.At])) ++ (lZ a b (((a).length : Nat) : Int))), (IntKind.i64.wrap (c + (1:Int))))))))))))))) else (gd (fits a (0:Int) b) (gd (room ([] : List Nat) (lZ a (0:Int) b)) ((df f c).bind fun e => (gd (room (lZ a (0:Int) b) ([e.At])) (gd (fits a b (((a).length : Nat) : Int)) (gd (room ((lZ a (0:Int) b) ++ ([e.At])) (lZ a b (((a).length : Nat) : Int))) (some (Sum.inl ((((lZ a (0:Int) b) ++ ([e.At])) ++ (lZ a b (((a).length : Nat) : Int))), (IntKind.i64.wrap (c + (1:Int)))))))))))))
noncomputable def mm (a : (List aF)) (s : ((List Nat) × Int)) : Option (((List Nat) × Int) ⊕ ((List Nat))) :=
 match s with | (b, c) => (bif (decide (c < ((a).length : Int))) then (((bA (kP b a c) (0:Int))).bind (kD b a c)) else (bB (some b)))
noncomputable def qC (a : (List aF)) : Option ((List Nat)) :=
 (bA (mm a) ([], (0:Int)))
noncomputable def ly (e : ((List Nat))) (f : Int) (g : (List aF)) (h : Int) (i j : Nat) (s : ((List bQ) × Int)) : Option (((List bQ) × Int) ⊕ ((List bQ))) :=
 match s with | (a, b) => (bif (decide (b < ((e).length : Int))) then (bif (decide (((a).length : Int) < f)) then ((df e b).bind fun c => ((iS g c h).bind fun d => (bif d.Has then ((jB c i j).bind fun k => (bif k then (gd (room a ([({ At := c, Val := d.Val } : bQ)])) (some (Sum.inl ((a ++ ([({ At := c, Val := d.Val } : bQ)])), (IntKind.i64.wrap (b + (1:Int))))))) else (some (Sum.inl (a, (IntKind.i64.wrap (b + (1:Int)))))))) else (some (Sum.inl (a, (IntKind.i64.wrap (b + (1:Int))))))))) else (bB (some a))) else (bB (some a)))
noncomputable def lO (a : (List aF)) (b c : Nat) (d e : Int) : Option ((List bQ)) :=
 ((qC a).bind fun f => (bA (ly f e a d b c) ([], (0:Int))))
noncomputable def gq (c : ap) (e : aj) (s : ((List ct) × Int)) : Option (((List ct) × Int) ⊕ ((List ct))) :=
 match s with | (a, b) => (bif (decide (b < ((c.Gets).length : Int))) then ((df c.Gets b).bind fun f => ((iS e.V f (18446744073709551615:Int)).bind fun d => (gd (room a ([d])) (some (Sum.inl ((a ++ ([d])), (IntKind.i64.wrap (b + (1:Int))))))))) else (bB (some a)))
noncomputable def fi (c : ap) (f : aj) (g : (List ct)) (s : ((List (List bQ)) × Int)) : Option (((List (List bQ)) × Int) ⊕ (bw)) :=
 match s with | (a, b) => (bif (decide (b < ((c.Scans).length : Int))) then ((df c.Scans b).bind fun d => ((lO f.V d.1 d.2 (18446744073709551615:Int) (64:Int)).bind fun e => (gd (room a ([e])) (some (Sum.inl ((a ++ ([e])), (IntKind.i64.wrap (b + (1:Int))))))))) else (bB (some ({ E := (0:Int), Epoch := (0:Int), Index := (0:Int), Gots := g, Scans := a } : bw))))
noncomputable def ka (a : ap) (b : aj) (c : ((List ct))) : Option (bw) :=
 (bA (fi a b c) ([], (0:Int)))
noncomputable def iR (a : aj) (b : ap) : Option (bw) :=
 (((bA (gq b a) ([], (0:Int)))).bind (ka b a))
noncomputable def me (e : (List aF)) (d : aF) (s : ((List aF) × Int)) : Option (((List aF) × Int) ⊕ ((List aF))) :=
 match s with | (b, c) => (bif (decide (c < ((e).length : Int))) then ((df e c).bind fun a => ((eJ a.At d.At).bind fun f => (bif (!f) then (gd (room b ([a])) (some (Sum.inl ((b ++ ([a])), (IntKind.i64.wrap (c + (1:Int))))))) else (bif (a.Epoch != d.Epoch) then (gd (room b ([a])) (some (Sum.inl ((b ++ ([a])), (IntKind.i64.wrap (c + (1:Int))))))) else (bif (a.Index != d.Index) then (gd (room b ([a])) (some (Sum.inl ((b ++ ([a])), (IntKind.i64.wrap (c + (1:Int))))))) else (some (Sum.inl (b, (IntKind.i64.wrap (c + (1:Int))))))))))) else (bB (some b)))
noncomputable def pe (b : (List aF)) (a : aF) (c : ((List Int))) : Option ((List aF)) :=
 (gd (room b ([({ a with Val := c } : aF)])) (some (b ++ ([({ a with Val := c } : aF)]))))
noncomputable def ph (a : aF) (b : ((List aF))) : Option ((List aF)) :=
 (((bif a.Del then (some ([])) else (some a.Val))).bind (pe b a))
noncomputable def nX (b : (List aF)) (a : aF) : Option ((List aF)) :=
 (((bA (me b a) ([], (0:Int)))).bind (ph a))
noncomputable def jS (b : (List cw)) (c : Int) (a : (Int)) : Option ((Int) ⊕ (cw)) :=
 (bif (decide (a < ((b).length : Int))) then ((df b a).bind fun d => (bif (d.Session == c) then (bB (some d)) else (some (Sum.inl (IntKind.i64.wrap (a + (1:Int))))))) else (bB (some ({ Session := c, Seq := (0:Int), R := bK } : cw))))
noncomputable def iE (a : (List cw)) (b : Int) : Option (cw) :=
 (bA (jS a b) (0:Int))
noncomputable def iN (d : (List cw)) (e : Int) (s : ((List cw) × Int)) : Option (((List cw) × Int) ⊕ ((List cw) × Int)) :=
 match s with | (a, b) => (bif (decide (b < ((d).length : Int))) then ((df d b).bind fun c => (bif (c.Session != e) then (gd (room a ([c])) (some (Sum.inl ((a ++ ([c])), (IntKind.i64.wrap (b + (1:Int))))))) else (some (Sum.inl (a, (IntKind.i64.wrap (b + (1:Int)))))))) else (bB (some (a, (0:Int)))))
noncomputable def nh (a : (List cw)) (b c : Int) (d : bw) : Option ((List cw) × Int) :=
 (bif (c == (0:Int)) then (some (a, (1:Int))) else ((iE a b).bind fun e => (bif (decide (e.Seq ≥ c)) then (some (a, (10:Int))) else (bA (iN a b) ([({ Session := b, Seq := c, R := d } : cw)], (0:Int))))))
noncomputable def fm (d : aj) (e : bO) (s : ((List bC) × Int)) : Option (((List bC) × Int) ⊕ ((List bC))) :=
 match s with | (a, b) => (bif (decide (b < ((d.Open).length : Int))) then ((df d.Open b).bind fun c => (bif (!((c.ID.Session == e.Session) && (c.ID.Seq == e.Seq))) then (gd (room a ([c])) (some (Sum.inl ((a ++ ([c])), (IntKind.i64.wrap (b + (1:Int))))))) else (some (Sum.inl (a, (IntKind.i64.wrap (b + (1:Int)))))))) else (bB (some a)))
noncomputable def js (a : aj) (b : ((List bC))) : Option (aj) :=
 (some ({ a with Open := b } : aj))
noncomputable def fI (a : aj) (b : bO) : Option (aj) :=
 (((bA (fm a b) ([], (0:Int)))).bind (js a))
noncomputable def jn (a : (aj)) (b : aH) (c d : Int) (e : ((List ee))) : Option (aj) :=
 (gd (room a.Open ([({ b with E := c, Index := d, Parts := e } : bC)])) (some ({ a with Open := (a.Open ++ ([({ b with E := c, Index := d, Parts := e } : bC)])) } : aj)))
noncomputable def jo (a : aH) (b c : Int) (d : (List ct)) (e : (List (List bQ))) (f : (aj)) : Option (bj × aj) :=
 (some (({ Kind := (4:Int), ID := a.ID, R := ({ E := b, Epoch := a.Epoch, Index := c, Gots := d, Scans := e } : bw) } : bj), f))
noncomputable def jr (a : aj) (b : aH) (c d : Int) (f : (List ct)) (g : (List (List bQ))) (j : Unit) : Option (bj × aj) :=
 ((nh a.A b.ID.Session b.ID.Seq ({ E := c, Epoch := b.Epoch, Index := d, Gots := f, Scans := g } : bw)).bind fun e => (bif (e.2 != (0:Int)) then ((iE a.A b.ID.Session).bind fun h => (bif (decide (h.Seq > b.ID.Seq)) then (some (({ Kind := (4:Int), ID := b.ID, R := ({ E := (10:Int), Epoch := (0:Int), Index := (0:Int), Gots := [], Scans := [] } : bw) } : bj), a)) else (some (bL, a)))) else (((bif (b.Shards != (0:Int)) then ((fI ({ a with A := e.1 } : aj) b.ID).bind fun i => (((bif (c == (0:Int)) then (some b.Parts) else (some ([])))).bind (jn i b c d))) else (some ({ a with A := e.1 } : aj)))).bind (jo b c d f g))))
noncomputable def gJ (a : aH) (b : aj) (d : Int) (s : (Int × (List ct) × (List (List bQ)))) : Option (bj × aj) :=
 match s with | (c, e, f) => (iL (bif (c != (0:Int)) then (bif (decide (a.ID.Session ≥ (9223372036854775808:Int))) then (bB (some (bL, b))) else (some (Sum.inl ()))) else (some (Sum.inl ()))) (jr b a c d e f))
noncomputable def gS (b : aj) (c : Int) (a : aH) : Option (bj × aj) :=
 (((bif (a.R.E == (0:Int)) then (bif (a.Epoch != b.Epoch) then (some ((9:Int), [], [])) else (some (a.R.E, a.R.Gots, a.R.Scans))) else (some (a.R.E, a.R.Gots, a.R.Scans)))).bind (gJ a b c))
noncomputable def jw (b : (List cH)) (a : cH) (d : Int) (s : (Bool × Int)) : Option ((Int × (List cH) × Bool) ⊕ ((List cH) × Bool)) :=
 match s with | (e, c) => (gd (room b ([({ a with To := c } : cH)])) (some (Sum.inl ((IntKind.i64.wrap (d + (1:Int))), (b ++ ([({ a with To := c } : cH)])), e))))
noncomputable def iD (d : (List cH)) (f g : Int) (s : (Int × (List cH) × Bool)) : Option ((Int × (List cH) × Bool) ⊕ ((List cH) × Bool)) :=
 match s with | (b, e, c) => (bif (decide (b < ((d).length : Int))) then ((df d b).bind fun a => (((bif (a.R.ID == f) then (bif (a.To == (0:Int)) then (some (true, g)) else (some (c, a.To))) else (some (c, a.To)))).bind (jw e a b))) else (bB (some (e, c))))
noncomputable def oM (s : ((List cH) × Bool)) : Option ((List cH) × Bool) :=
 match s with | (a, b) => (some (a, b))
noncomputable def lf (a : (List cH)) (b : Int) (c : (Int)) : Option ((List cH) × Bool) :=
 (((bA (iD a b c) ((0:Int), [], false))).bind (oM))
noncomputable def mq (b : (List cH)) (c a : Int) : Option ((List cH) × Bool) :=
 (((bif (a == (0:Int)) then (some (1:Int)) else (some a))).bind (lf b c))
noncomputable def pg (a : (List Int)) (c : Int) (b : (Int)) : Option (((List Int) × Int) ⊕ ((List Int))) :=
 (gd (room a ([b])) (some (Sum.inl ((a ++ ([b])), (IntKind.i64.wrap (c + (1:Int)))))))
noncomputable def jE (d : Int) (b : bR) (s : ((List Int) × Int)) : Option (((List Int) × Int) ⊕ ((List Int))) :=
 match s with | (c, a) => (bif (decide (a < d)) then (bif (!b.Del) then (((bif (decide (a < ((b.Val).length : Int))) then ((df b.Val a).bind fun e => (some e)) else (some (0:Int)))).bind (pg c a)) else (bB (some c))) else (bB (some c)))
noncomputable def nG (a : bR) (b : ((List Int))) : Option (bR) :=
 (some ({ a with Val := b } : bR))
noncomputable def qy (a : bR) (b : Int) : Option (bR) :=
 (((bA (jE b a) ([], (0:Int)))).bind (nG a))
noncomputable def ff (e : aj) (f : aH) (s : (Int × Int × (List dv))) : Option ((Int × Int × (List dv)) ⊕ (Int × (List dv))) :=
 match s with | (d, a, b) => (bif (decide (a < ((e.Used).length : Int))) then ((df e.Used a).bind fun c => (bif (c.Rule != f.Rule.ID) then (gd (room b ([c])) (some (Sum.inl (d, (IntKind.i64.wrap (a + (1:Int))), (b ++ ([c])))))) else (bif (c.Epoch == f.Epoch) then (some (Sum.inl (c.N, (IntKind.i64.wrap (a + (1:Int))), b))) else (some (Sum.inl (d, (IntKind.i64.wrap (a + (1:Int))), b)))))) else (bB (some (d, b))))
noncomputable def fh (d : aj) (e : aH) (s : ((List cR) × Int)) : Option (((List cR) × Int) ⊕ ((List cR))) :=
 match s with | (a, b) => (bif (decide (b < ((d.Out).length : Int))) then ((df d.Out b).bind fun c => (bif (c.To == e.Rule.To) then (gd (room a ([c])) (some (Sum.inl ((a ++ ([c])), (IntKind.i64.wrap (b + (1:Int))))))) else (some (Sum.inl (a, (IntKind.i64.wrap (b + (1:Int)))))))) else (bB (some a)))
noncomputable def kb (a : aH) (b c : Int) (d : (aj)) : Option (bj × aj) :=
 (some (({ Kind := (4:Int), ID := a.ID, R := ({ E := b, Epoch := a.Epoch, Index := c, Gots := [], Scans := [] } : bw) } : bj), d))
noncomputable def dL (a : aj) (b : aH) (e : Int) (f : (List dv)) (g : Int) (c : (Int)) : Option (bj × aj) :=
 ((nh a.A b.ID.Session b.ID.Seq ({ E := c, Epoch := b.Epoch, Index := e, Gots := [], Scans := [] } : bw)).bind fun d => (bif (d.2 != (0:Int)) then ((iE a.A b.ID.Session).bind fun j => (bif (decide (j.Seq > b.ID.Seq)) then (some (({ Kind := (4:Int), ID := b.ID, R := ({ E := (10:Int), Epoch := (0:Int), Index := (0:Int), Gots := [], Scans := [] } : bw) } : bj), a)) else (some (bL, a)))) else (((bif (c == (0:Int)) then (gd (room f ([({ Rule := b.Rule.ID, Epoch := b.Epoch, N := (IntKind.i64.wrap (g + (1:Int))) } : dv)])) ((df b.Writes (0:Int)).bind fun k => ((bA (fh a b) ([], (0:Int))).bind fun h => ((qy k a.Wide).bind fun i => (gd (room a.Out ([({ To := b.Rule.To, N := (IntKind.u64.wrap (IntKind.i64.wrap (((h).length : Int) + (1:Int)))), Rule := b.Rule.ID, Epoch := b.Epoch, W := i } : cR)])) (some ({ a with A := d.1, Out := (a.Out ++ ([({ To := b.Rule.To, N := (IntKind.u64.wrap (IntKind.i64.wrap (((h).length : Int) + (1:Int)))), Rule := b.Rule.ID, Epoch := b.Epoch, W := i } : cR)])), Used := (f ++ ([({ Rule := b.Rule.ID, Epoch := b.Epoch, N := (IntKind.i64.wrap (g + (1:Int))) } : dv)])) } : aj))))))) else (some ({ a with A := d.1 } : aj)))).bind (kb b c e))))
noncomputable def iI (b : Int) (c : aH) (d : aj) (e : Int) (f : (List dv)) (a : (Int)) : Option (bj × aj) :=
 (((bif (a == (0:Int)) then (bif (decide (b ≥ c.Rule.Quota)) then (some (13:Int)) else (some a)) else (some a))).bind (dL d c e f b))
noncomputable def iK (b : aH) (c : Int) (d : aj) (e : Int) (f : (List dv)) (a : (Int)) : Option (bj × aj) :=
 (((bif (a == (0:Int)) then (bif (((b.Writes).length : Int) != (1:Int)) then (some (1:Int)) else (some a)) else (some a))).bind (iI c b d e f))
noncomputable def kc (a : aH) (b : aj) (c : Int) (s : (Int × (List dv))) : Option (bj × aj) :=
 match s with | (d, e) => (((bif (a.R.E == (0:Int)) then (bif (a.Epoch != b.Epoch) then (some (9:Int)) else (some a.R.E)) else (some a.R.E))).bind (iK a d b c e))
noncomputable def iT (a : aj) (c : Int) (b : aH) : Option (bj × aj) :=
 (((bA (ff a b) ((0:Int), (0:Int), []))).bind (kc b a c))
noncomputable def jR (b : (Int × aj)) (a : (bj)) : Option (bj × aj) :=
 (some (({ a with R := ({ a.R with E := b.1 } : bw) } : bj), b.2))
noncomputable def dx (e : Bool) (b : aH) (s : (aj × Int)) : Option ((aj × Int) ⊕ (aj)) :=
 match s with | (a, c) => (bif e then (bif (b.E == (0:Int)) then (bif (decide (c < ((b.Writes).length : Int))) then ((df b.Writes c).bind fun d => ((nX a.V ({ d with Epoch := b.Epoch, Index := b.Index } : aF)).bind fun f => (some (Sum.inl (({ a with V := f } : aj), (IntKind.i64.wrap (c + (1:Int)))))))) else (bB (some a))) else (bB (some a))) else (bB (some a)))
noncomputable def lX (a : aH) (b : (aj)) : Option (bj × aj) :=
 (some (({ Kind := (3:Int), ID := a.ID, R := bK } : bj), b))
noncomputable def ig (a : aj) (b : aH) (c : (Bool)) : Option (bj × aj) :=
 ((oa a.H b.ID).bind fun d => (((bA (dx c b) (({ a with H := d } : aj), (0:Int)))).bind (lX b)))
noncomputable def cx (a : aj) (e : Int) (b : aH) : Option (bj × aj) :=
 (bif (b.Kind == (1:Int)) then (bif (b.Epoch != a.Epoch) then (some (bL, a)) else ((iz a).bind fun h => (bif (!h) then (some (bL, a)) else (bif (decide ((IntKind.u64.wrap (a.Epoch + (1:Int))) > (9:Int))) then none else (some (({ Kind := (1:Int), ID := ({ Session := (0:Int), Seq := (0:Int) } : bO), R := bK } : bj), ({ a with Epoch := (IntKind.u64.wrap (a.Epoch + (1:Int))) } : aj))))))) else (bif (b.Kind == (2:Int)) then ((iV a b.Hold).bind fun c => (((bif (c.1 == (0:Int)) then ((iR c.2 b.Hold).bind fun i => (some ({ Kind := (2:Int), ID := b.Hold.ID, R := i } : bj))) else (some ({ Kind := (2:Int), ID := b.Hold.ID, R := bK } : bj)))).bind (jR c))) else (bif (b.Kind == (3:Int)) then ((((kO a.H b.ID).bind fun j => (some j.2))).bind (ig a b)) else (bif (b.Kind == (4:Int)) then ((gS a e b).bind fun f => (some (f.1, f.2))) else (bif (b.Kind == (5:Int)) then ((fI a b.ID).bind fun k => (some (bL, k))) else (bif (b.Kind == (6:Int)) then ((mq a.B b.Rule.ID a.Epoch).bind fun d => (bif b.On then (gd (room d.1 ([({ R := b.Rule, From := a.Epoch, To := (0:Int) } : cH)])) (some (bL, ({ a with B := (d.1 ++ ([({ R := b.Rule, From := a.Epoch, To := (0:Int) } : cH)])) } : aj)))) else (some (bL, ({ a with B := d.1 } : aj))))) else (bif (b.Kind == (7:Int)) then ((iT a e b).bind fun g => (some (g.1, g.2))) else (some (bL, a)))))))))
noncomputable def fl (b e : (List ct)) (a : (Int)) : Option ((Int) ⊕ (Bool)) :=
 (bif (decide (a < ((b).length : Int))) then ((df b a).bind fun c => ((df e a).bind fun d => (bif (!(c.Has == d.Has)) then none else (bif (!(sEq (iZ c.Val) (iZ d.Val))) then none else (some (Sum.inl (IntKind.i64.wrap (a + (1:Int))))))))) else (bB (some true)))
noncomputable def gj (a b : (List ct)) : Option (Bool) :=
 (bif (((a).length : Int) != ((b).length : Int)) then none else (bA (fl a b) (0:Int)))
noncomputable def fE (b e : (List bQ)) (a : (Int)) : Option ((Int) ⊕ (Bool)) :=
 (bif (decide (a < ((b).length : Int))) then ((df b a).bind fun c => ((df e a).bind fun d => ((eJ c.At d.At).bind fun f => (bif (!f) then none else (bif (!(sEq (iZ c.Val) (iZ d.Val))) then none else (some (Sum.inl (IntKind.i64.wrap (a + (1:Int)))))))))) else (bB (some true)))
noncomputable def gF (a b : (List bQ)) : Option (Bool) :=
 (bif (((a).length : Int) != ((b).length : Int)) then none else (bA (fE a b) (0:Int)))
noncomputable def fH (b c : bw) (a : (Int)) : Option ((Int) ⊕ (Bool)) :=
 (bif (decide (a < ((b.Scans).length : Int))) then ((df b.Scans a).bind fun d => ((df c.Scans a).bind fun e => ((gF d e).bind fun f => (bif (!f) then none else (some (Sum.inl (IntKind.i64.wrap (a + (1:Int))))))))) else (bB (some true)))
noncomputable def eX (a b : bw) : Option (Bool) :=
 (bif (a.E != b.E) then none else (bif (a.Epoch != b.Epoch) then none else (bif (a.Index != b.Index) then none else ((gj a.Gots b.Gots).bind fun c => (bif (!c) then none else (bif (((a.Scans).length : Int) != ((b.Scans).length : Int)) then none else (bA (fH a b) (0:Int))))))))
noncomputable def kq (a b : bj) : Option (Bool) :=
 (bif (a.Kind == b.Kind) then (bif ((a.ID.Session == b.ID.Session) && (a.ID.Seq == b.ID.Seq)) then ((eX a.R b.R).bind fun c => (some c)) else none) else none)
noncomputable def dw (a : (List bC)) : Option ((List bC)) :=
 gd (room ([] : (List bC)) a) (some a)
noncomputable def kX (a : (Option ae)) : Option ((List bC)) :=
 (match a with | none => none | some b => ((dw b.open_).bind fun c => (some c)))
noncomputable def fg (d e : (List bR)) (a : (Int)) : Option ((Int) ⊕ (Bool)) :=
 (bif (decide (a < ((d).length : Int))) then ((df d a).bind fun b => ((df e a).bind fun c => ((eJ b.At c.At).bind fun f => (bif (!f) then none else (bif (!(b.Del == c.Del)) then none else (bif (!(sEq (iZ b.Val) (iZ c.Val))) then none else (some (Sum.inl (IntKind.i64.wrap (a + (1:Int))))))))))) else (bB (some true)))
noncomputable def fM (a b : (List bR)) : Option (Bool) :=
 (bif (((a).length : Int) != ((b).length : Int)) then none else (bA (fg a b) (0:Int)))
noncomputable def eo (b f : bC) (s : (Bool × Int)) : Option ((Bool × Int) ⊕ (Bool)) :=
 match s with | (c, a) => (bif (decide (a < ((b.Parts).length : Int))) then (bif c then ((df b.Parts a).bind fun d => ((df f.Parts a).bind fun e => (bif (d.Shard == e.Shard) then ((fM d.Writes e.Writes).bind fun g => (some (Sum.inl (g, (IntKind.i64.wrap (a + (1:Int))))))) else (some (Sum.inl (false, (IntKind.i64.wrap (a + (1:Int))))))))) else (some (Sum.inl (false, (IntKind.i64.wrap (a + (1:Int))))))) else (bB (some c)))
noncomputable def kK (b : Bool) (a : Int) (c : (Bool)) : Option ((Bool × Int) ⊕ ((Int) ⊕ (Bool))) :=
 (bif b then (some (Sum.inl (true, (IntKind.i64.wrap (a + (1:Int)))))) else (some (Sum.inl (c, (IntKind.i64.wrap (a + (1:Int)))))))
noncomputable def fb (e g : (List bC)) (f : Int) (s : (Bool × Int)) : Option ((Bool × Int) ⊕ ((Int) ⊕ (Bool))) :=
 match s with | (b, a) => (bif (decide (a < ((e).length : Int))) then ((df g f).bind fun c => ((df e a).bind fun d => (bif ((c.ID.Session == d.ID.Session) && (c.ID.Seq == d.ID.Seq)) then (bif (c.E == d.E) then (bif (c.Epoch == d.Epoch) then (bif (c.Index == d.Index) then (bif (c.Shards == d.Shards) then (bif (((c.Parts).length : Int) == ((d.Parts).length : Int)) then (((bA (eo c d) (true, (0:Int)))).bind (kK b a)) else (some (Sum.inl (b, (IntKind.i64.wrap (a + (1:Int))))))) else (some (Sum.inl (b, (IntKind.i64.wrap (a + (1:Int))))))) else (some (Sum.inl (b, (IntKind.i64.wrap (a + (1:Int))))))) else (some (Sum.inl (b, (IntKind.i64.wrap (a + (1:Int))))))) else (some (Sum.inl (b, (IntKind.i64.wrap (a + (1:Int))))))) else (some (Sum.inl (b, (IntKind.i64.wrap (a + (1:Int))))))))) else (bB (bif (!b) then none else (some (Sum.inl (IntKind.i64.wrap (f + (1:Int))))))))
noncomputable def gl (a c : (List bC)) (b : (Int)) : Option ((Int) ⊕ (Bool)) :=
 (bif (decide (b < ((a).length : Int))) then (bA (fb c a b) (false, (0:Int))) else (bB (some true)))
noncomputable def iJ (a b : (List bC)) : Option (Bool) :=
 (bif (((a).length : Int) != ((b).length : Int)) then none else (bA (gl a b) (0:Int)))
noncomputable def kV (a : (Option cg)) : Option (Int) :=
 (match a with | none => none | some b => (some ((b.l).length : Int)))
noncomputable def gM (d : (Int)) (e : cg) (s : ((List bO) × Int)) : Option (((List bO) × Int) ⊕ ((List bO))) :=
 match s with | (a, b) => (bif (decide (b < d)) then ((df e.l b).bind fun c => (gd (room a ([c.ID])) (some (Sum.inl ((a ++ ([c.ID])), (IntKind.i64.wrap (b + (1:Int)))))))) else (bB (some a)))
noncomputable def iB (b : (Option cg)) : Option ((List bO)) :=
 (match b with | none => none | some a => ((kV (some a)).bind fun c => (bA (gM c a) ([], (0:Int)))))
noncomputable def ja (a : (Option ae)) : Option ((List bO)) :=
 (match a with | none => none | some b => ((iB b.locks).bind fun c => (some c)))
noncomputable def kW (b : (Option ae)) (c : bO) : Option (ap × Bool) :=
 (match b with | none => none | some d => ((gC d.locks c).bind fun a => (some (a.1, a.2))))
noncomputable def nk (a : Int) : Option (Nat) :=
 ((df ([(0:Nat), (4607182418800017408:Nat), (13830554455654793216:Nat), (4612811918334230528:Nat), (9094988921128908188:Nat), (18318360957983683996:Nat), (4602678819172646912:Nat), (4613937818241073152:Nat)]) (Int.tmod a (8:Int))).bind fun b => (some b))
noncomputable def lU (a : (Option ae)) (b : Nat) : Option (ct) :=
 (match a with | none => none | some c => ((ea c.store b (18446744073709551615:Int)).bind fun d => (some d)))
noncomputable def fA (c : (Option ae)) (a : Int) : Option (Int) :=
 (match c with | none => none | some b => (bif (decide (a ≥ b.epoch)) then (some (2:Int)) else (bif (decide ((IntKind.u64.wrap ((IntKind.u64.wrap (a + (1:Int))) + (8:Int))) < b.epoch)) then (some (9:Int)) else (some (0:Int)))))
noncomputable def lY (d : (Option ae)) (e : Nat) (a : Int) : Option (ct × Int) :=
 (match d with | none => none | some b => ((fA (some b) a).bind fun c => (bif (c != (0:Int)) then (some (({ Has := false, Val := [] } : ct), c)) else ((ea b.store e a).bind fun f => (some (f, (0:Int)))))))
noncomputable def iv (d : ae) (e : Int) (s : (Int × (List cR))) : Option ((Int × (List cR)) ⊕ ((List cR))) :=
 match s with | (a, b) => (bif (decide (a < ((d.out).length : Int))) then ((df d.out a).bind fun c => (bif (c.To == e) then (gd (room b ([c])) (some (Sum.inl ((IntKind.i64.wrap (a + (1:Int))), (b ++ ([c])))))) else (some (Sum.inl ((IntKind.i64.wrap (a + (1:Int))), b))))) else (bB (some b)))
noncomputable def lK (a : (Option ae)) (b : Int) : Option ((List cR)) :=
 (match a with | none => none | some c => (bA (iv c b) ((0:Int), [])))
noncomputable def iq (d : aj) (e : Int) (s : ((List cR) × Int)) : Option (((List cR) × Int) ⊕ ((List cR))) :=
 match s with | (a, b) => (bif (decide (b < ((d.Out).length : Int))) then ((df d.Out b).bind fun c => (bif (c.To == e) then (gd (room a ([c])) (some (Sum.inl ((a ++ ([c])), (IntKind.i64.wrap (b + (1:Int))))))) else (some (Sum.inl (a, (IntKind.i64.wrap (b + (1:Int)))))))) else (bB (some a)))
noncomputable def nF (a : aj) (b : Int) : Option ((List cR)) :=
 (bA (iq a b) ([], (0:Int)))
noncomputable def kF (a : Int) (b : (Bool)) : Option ((Int) ⊕ (Bool)) :=
 (bif b then none else (some (Sum.inl (IntKind.i64.wrap (a + (1:Int))))))
noncomputable def jl (d e : (List cR)) (c : (Int)) : Option ((Int) ⊕ (Bool)) :=
 (bif (decide (c < ((d).length : Int))) then ((((df d c).bind fun a => ((df e c).bind fun b => (bif (a.To != b.To) then none else (bif (a.N != b.N) then none else (bif (a.Rule != b.Rule) then none else (bif (a.Epoch != b.Epoch) then none else ((fM ([a.W]) ([b.W])).bind fun f => (some (!f)))))))))).bind (kF c)) else (bB (some true)))
noncomputable def kZ (a b : (List cR)) : Option (Bool) :=
 (bif (((a).length : Int) != ((b).length : Int)) then none else (bA (jl a b) (0:Int)))
noncomputable def kT (a : (Option ae)) (b : Int) : Option (Int) :=
 (match a with | none => none | some c => ((eu c.last b).bind fun d => (some d)))
noncomputable def fY (e : (Option cm)) (f b : Int) : Option (bw × Int) :=
 (match e with | none => none | some c => ((eR (some c) f).bind fun d => (bif (!d.2) then (some (bK, (2:Int))) else ((df c.l d.1).bind fun a => (bif (decide (a.seq < b)) then (some (bK, (2:Int))) else (bif (decide (a.seq > b)) then (some (bK, (10:Int))) else (some (a.r, (0:Int)))))))))
noncomputable def jD (c : (Option ae)) (a : bO) : Option (bw × Int) :=
 (match c with | none => none | some d => ((fY d.last a.Session a.Seq).bind fun b => (some (b.1, b.2))))
noncomputable def gh (d : cA) (e c : Int) (b : (Int)) : Option ((Int) ⊕ (du × Bool)) :=
 (bif (decide (b ≥ (0:Int))) then ((df d.l b).bind fun a => (bif (a.r.ID == e) then (bif (decide (a.from_ ≤ c)) then (bif (a.to_ == (0:Int)) then (bB (some (a.r, true))) else (bif (decide (a.to_ > c)) then (bB (some (a.r, true))) else (some (Sum.inl (IntKind.i64.wrap (b - (1:Int))))))) else (some (Sum.inl (IntKind.i64.wrap (b - (1:Int)))))) else (some (Sum.inl (IntKind.i64.wrap (b - (1:Int))))))) else (bB (some (eE, false))))
noncomputable def lQ (b : (Option cA)) (c d : Int) : Option (du × Bool) :=
 (match b with | none => none | some a => (bA (gh a c d) (IntKind.i64.wrap (((a.l).length : Int) - (1:Int)))))
noncomputable def gW (b : ae) (c d : Int) (e : Unit) : Option (du × Int) :=
 ((lQ b.book c d).bind fun a => (bif (!a.2) then (some (eE, (12:Int))) else (some (a.1, (0:Int)))))
noncomputable def kS (d : (Option ae)) (e b : Int) : Option (du × Int) :=
 (match d with | none => none | some c => (iL ((fA (some c) b).bind fun a => (bif (a != (0:Int)) then (bif (a != (9:Int)) then (bB (some (eE, a))) else (some (Sum.inl ()))) else (some (Sum.inl ())))) (gW c e b)))
noncomputable def lJ (k : (List cH)) (m l : Int) (s : (Int × Int × Int × Nat × Nat × Int × Int × Int × Bool)) : Option ((Int × Int × Int × Nat × Nat × Int × Int × Int × Bool) ⊕ (Int × Int × Int × Nat × Nat × Int × Int × Bool)) :=
 match s with | (c, d, e, f, g, h, i, b, j) => (bif (decide (b < ((k).length : Int))) then ((df k b).bind fun a => (bif (a.R.ID == m) then (bif (decide (a.From ≤ l)) then (bif (a.To == (0:Int)) then (some (Sum.inl (a.R.ID, a.R.From, a.R.To, a.R.Lo, a.R.Hi, a.R.Authority, a.R.Quota, (IntKind.i64.wrap (b + (1:Int))), true))) else (bif (decide (l < a.To)) then (some (Sum.inl (a.R.ID, a.R.From, a.R.To, a.R.Lo, a.R.Hi, a.R.Authority, a.R.Quota, (IntKind.i64.wrap (b + (1:Int))), true))) else (some (Sum.inl (c, d, e, f, g, h, i, (IntKind.i64.wrap (b + (1:Int))), j))))) else (some (Sum.inl (c, d, e, f, g, h, i, (IntKind.i64.wrap (b + (1:Int))), j)))) else (some (Sum.inl (c, d, e, f, g, h, i, (IntKind.i64.wrap (b + (1:Int))), j))))) else (bB (some (c, d, e, f, g, h, i, j))))
noncomputable def rK (s : (Int × Int × Int × Nat × Nat × Int × Int × Bool)) : Option (du × Bool) :=
 match s with | (a, b, c, d, e, f, g, h) => (some (({ ID := a, From := b, To := c, Lo := d, Hi := e, Authority := f, Quota := g } : du), h))
noncomputable def rC (a : (List cH)) (b c : Int) : Option (du × Bool) :=
 (((bA (lJ a b c) ((0:Int), (0:Int), (0:Int), (0:Nat), (0:Nat), (0:Int), (0:Int), (0:Int), false))).bind (rK))
noncomputable def lS (a b : du) : Option (Bool) :=
 (bif (a.ID == b.ID) then (bif (a.From == b.From) then (bif (a.To == b.To) then ((eJ a.Lo b.Lo).bind fun c => (bif c then ((eJ a.Hi b.Hi).bind fun d => (bif d then (bif (a.Authority == b.Authority) then (some (a.Quota == b.Quota)) else none) else none)) else none)) else none) else none) else none)
noncomputable def ow (a : (ap × Bool)) (b : Int) (s : (Int × Int × Int × (List Nat) × (List (Nat × Nat)) × (List Nat) × (List Int) × Bool)) : Option ((Int) ⊕ (Unit ⊕ (Bool))) :=
 match s with | (c, d, e, f, g, h, i, j) => (bif (!a.2) then none else (bif (!j) then none else ((ji a.1 ({ ID := ({ Session := c, Seq := d } : bO), Epoch := e, Gets := f, Scans := g, Puts := h, Data := i } : ap)).bind fun k => (bif (!k) then none else (some (Sum.inl (IntKind.i64.wrap (b + (1:Int)))))))))
noncomputable def jW (c : ((List bO))) (e : (Option ae)) (f : aj) (b : (Int)) : Option ((Int) ⊕ (Unit ⊕ (Bool))) :=
 (bif (decide (b < ((c).length : Int))) then ((df c b).bind fun d => ((kW e d).bind fun g => ((((kO f.H d).bind fun a => (some (a.1.ID.Session, a.1.ID.Seq, a.1.Epoch, a.1.Gets, a.1.Scans, a.1.Puts, a.1.Data, a.2)))).bind (ow g b)))) else (bB (some (Sum.inl ()))))
noncomputable def mQ (a : Int) (b : (Bool)) : Option ((Int) ⊕ ((Int) ⊕ (Unit ⊕ (Bool)))) :=
 (bif b then none else (some (Sum.inl (IntKind.u64.wrap (a + (1:Int))))))
noncomputable def mH (a : (ct × Int)) (c : Int) (d : aj) (b : Int) (e : (Int)) : Option ((Int) ⊕ ((Int) ⊕ (Unit ⊕ (Bool)))) :=
 (((bif (a.2 != e) then none else (bif (a.2 == (0:Int)) then ((nk c).bind fun f => ((iS d.V f b).bind fun g => ((gj ([a.1]) ([g])).bind fun h => (some (!h))))) else (some false)))).bind (mQ b))
noncomputable def jV (b : Int) (d : (Option ae)) (c : aj) (a : (Int)) : Option ((Int) ⊕ ((Int) ⊕ (Unit ⊕ (Bool)))) :=
 (bif (decide (a < (6:Int))) then ((nk b).bind fun e => ((lY d e a).bind fun f => (((bif (decide (a ≥ c.Epoch)) then (some (2:Int)) else (bif (decide ((IntKind.u64.wrap (a + (9:Int))) < c.Epoch)) then (some (9:Int)) else (some (0:Int))))).bind (mH f b c a)))) else (bB (some (Sum.inl (IntKind.i64.wrap (b + (1:Int)))))))
noncomputable def ov (a : Int) (b : (Option ae)) (c : aj) (d : (Bool)) : Option ((Int) ⊕ (Unit ⊕ (Bool))) :=
 (bif d then none else (bA (jV a b c) (0:Int)))
noncomputable def lu (b : (Option ae)) (c : aj) (a : (Int)) : Option ((Int) ⊕ (Unit ⊕ (Bool))) :=
 (bif (decide (a < (8:Int))) then ((((nk a).bind fun d => ((lU b d).bind fun e => ((nk a).bind fun f => ((iS c.V f (18446744073709551615:Int)).bind fun g => ((gj ([e]) ([g])).bind fun h => (some (!h)))))))).bind (ov a b c)) else (bB (some (Sum.inl ()))))
noncomputable def km (a : (du × Int)) (c : (du × Bool)) (b : Int) (d : (Int)) : Option ((Int) ⊕ ((Int) ⊕ (Bool))) :=
 (bif (a.2 != d) then none else (bif (a.2 == (0:Int)) then ((lS a.1 c.1).bind fun e => (bif (!e) then none else (some (Sum.inl (IntKind.u64.wrap (b + (1:Int))))))) else (some (Sum.inl (IntKind.u64.wrap (b + (1:Int)))))))
noncomputable def kl (a : Int) (b : aj) (c : (du × Int)) (d : (du × Bool)) (e : (Int)) : Option ((Int) ⊕ ((Int) ⊕ (Bool))) :=
 (((bif (decide (a ≥ b.Epoch)) then (some (2:Int)) else (some e))).bind (km c d a))
noncomputable def jc (e : (Option ae)) (b : Int) (c : aj) (a : (Int)) : Option ((Int) ⊕ ((Int) ⊕ (Bool))) :=
 (bif (decide (a < (4:Int))) then ((kS e (IntKind.u64.wrap b) a).bind fun f => ((rC c.B (IntKind.u64.wrap b) a).bind fun d => (((bif (!d.2) then (some (12:Int)) else (some (0:Int)))).bind (kl a c f d)))) else (bB (some (Sum.inl (IntKind.i64.wrap (b + (1:Int)))))))
noncomputable def nM (a : (Option ae)) (b : Int) (c : aj) (d : Unit) : Option ((Int) ⊕ (Bool)) :=
 (bA (jc a b c) (0:Int))
noncomputable def lx (b : (Option ae)) (c : aj) (a : (Int)) : Option ((Int) ⊕ (Bool)) :=
 (bif (decide (a < (4:Int))) then ((lK b a).bind fun f => ((nF c a).bind fun g => ((kZ f g).bind fun h => (bif (!h) then none else ((kT b (IntKind.u64.wrap a)).bind fun i => ((iE c.A (IntKind.u64.wrap a)).bind fun j => (bif (i != j.Seq) then none else ((iE c.A (IntKind.u64.wrap a)).bind fun d => ((jD b ({ Session := (IntKind.u64.wrap a), Seq := d.Seq } : bO)).bind fun e => (iL (bif (decide (d.Seq > (0:Int))) then (bif (e.2 != (0:Int)) then none else ((eX e.1 d.R).bind fun k => (bif (!k) then none else (some (Sum.inl ()))))) else (some (Sum.inl ()))) (nM b a c))))))))))) else (bB (some true)))
noncomputable def qj (a : (Option ae)) (b : aj) (c : Unit) : Option (Bool) :=
 (bA (lx a b) (0:Int))
noncomputable def mI (a : (Option ae)) (b : aj) (c : Unit) : Option (Bool) :=
 (iL (bA (lu a b) (0:Int)) (qj a b))
noncomputable def pF (a : (Option ae)) (b : aj) : Option (Bool) :=
 ((iQ a).bind fun d => (bif (d != b.Epoch) then none else ((jh a).bind fun e => ((iz b).bind fun f => (bif (!(e == f)) then none else ((kX a).bind fun g => ((iJ g b.Open).bind fun h => (bif (!h) then none else ((ja a).bind fun c => (bif (((c).length : Int) != ((b.H).length : Int)) then none else (iL (bA (jW c a b) (0:Int)) (mI a b))))))))))))
noncomputable def jb (s : (ao × ae × aj × Int)) : Option ((ao × ae × aj × Int) ⊕ (Bool)) :=
 match s with | (f, g, h, a) => (bif (decide (a < (30:Int))) then ((eY f).bind fun b => ((cv (some g) (IntKind.u64.wrap (IntKind.i64.wrap (a + (1:Int)))) b.1).bind fun d => (match d.2 with | none => none | some e => ((cx h (IntKind.u64.wrap (IntKind.i64.wrap (a + (1:Int)))) b.1).bind fun c => ((kq d.1 c.1).bind fun i => (bif (!i) then none else ((pF (some e) c.2).bind fun j => (bif (!j) then none else (some (Sum.inl (b.2, e, c.2, (IntKind.i64.wrap (a + (1:Int)))))))))))))) else (bB (some true)))
noncomputable def mV (a : (List Int)) (b : Int) : Option (Bool) :=
 (lV.bind fun c => (bif (!c) then (lV.bind fun d => (some d)) else (bif (decide (((a).length : Int) > (600:Int))) then (lV.bind fun e => (some e)) else ((qE (Int.tmod (IntKind.i64.wrap b) (6:Int))).bind fun f => ((sv (Int.tmod (IntKind.i64.wrap b) (6:Int))).bind fun g => (bA (jb) (({ L := a, I := (0:Int) } : ao), f, g, (0:Int))))))))
noncomputable def EP (a : (List Int)) : Option (ca) :=
 (some ({ p := a, bad := false } : ca))
end Go.Proofs.YtgnkkopjkgdieaaGreat
