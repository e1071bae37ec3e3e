/- A part of the proof. -/
import Derived.Test.YtgnkkopjkgdieaaGreatLaneBytesGw
set_option linter.unusedVariables false
set_option linter.unusedSimpArgs false
set_option maxRecDepth 100000
set_option maxHeartbeats 4000000
namespace Go.Proofs.YtgnkkopjkgdieaaGreat
open Go Go.V
structure bf where
 ae : Int
 Index : Int
 Del : Bool
 Val : (List Int)
structure bW where
 eW : Int
 l : (List bf)
structure cn where
 rows : (List bW)
structure cy where
 ab : Int
 Seq : Int
structure aw where
 ID : cy
 ae : Int
 dO : (List Nat)
 aX : (List (Nat×Nat))
 dD : (List Nat)
 Data : (List Int)
structure bN where
 l : (List aw)
structure cC where
 Has : Bool
 Val : (List Int)
structure bP where
 At : Nat
 Val : (List Int)
structure bB where
 E : Int
 ae : Int
 Index : Int
 dU : (List cC)
 aX : (List (List bP))
structure aZ where
 cV : Int
 seq : Int
 r : bB
structure bE where
 l : (List aZ)
structure dV where
 ID : Int
 dn : Int
 To : Int
 Lo : Nat
 Hi : Nat
 Authority : Int
 cx : Int
structure dj where
 r : dV
 from_ : Int
 to_ : Int
structure cg where
 l : (List dj)
structure bK where
 At : Nat
 Del : Bool
 Val : (List Int)
structure dM where
 oA : Int
 cw : (List bK)
structure bH where
 ID : cy
 E : Int
 ae : Int
 Index : Int
 bY : Int
 dN : (List dM)
structure dw where
 To : Int
 N : Int
 ap : Int
 ae : Int
 W : bK
structure da where
 jW : Int
 cI : Int
 n : Int
structure ai where
 wide : Int
 cI : Int
 store : (Option cn)
 fw : (Option bN)
 last : (Option bE)
 book : (Option cg)
 open_ : (List bH)
 out : (List dw)
 used : (List da)
structure aG where
 Kind : Int
 ID : cy
 ae : Int
 Index : Int
 E : Int
 br : aw
 cw : (List bK)
 R : bB
 bY : Int
 dN : (List dM)
 ap : dV
 On : Bool
structure bU where
 Kind : Int
 ID : cy
 R : bB
structure aP where
 At : Nat
 ae : Int
 Index : Int
 Del : Bool
 Val : (List Int)
structure dh where
 ab : Int
 Seq : Int
 R : bB
structure dA where
 R : dV
 dn : Int
 To : Int
structure eN where
 ap : Int
 ae : Int
 N : Int
structure aq where
 zx : Int
 ae : Int
 V : (List aP)
 H : (List aw)
 A : (List dh)
 B : (List dA)
 Open : (List bH)
 Out : (List dw)
 pR : (List eN)
structure aB where
 L : (List Int)
 I : Int
structure ao where
 p : (List Int)
structure ag where
 p : (List Int)
 bad : Bool
def ct:bB:={E:=(0:Int),ae:=(0:Int),Index:=(0:Int),dU:=[],aX:=[]}
def cD:bU:={Kind:=(0:Int),ID:=({ab:=(0:Int),Seq:=(0:Int)}:cy),R:=ct}
def dX:aw:={ID:=({ab:=(0:Int),Seq:=(0:Int)}:cy),ae:=(0:Int),dO:=[],aX:=[],dD:=[],Data:=[]}
def dY:dV:={ID:=(0:Int),dn:=(0:Int),To:=(0:Int),Lo:=(0:Nat),Hi:=(0:Nat),Authority:=(0:Int),cx:=(0:Int)}
noncomputable section
def uY:Option (cn) :=
 (some ({rows:=[]}:cn))
def tL:Option (bN) :=
 (some ({l:=[]}:bN))
def qF:Option (bE) :=
 (some ({l:=[]}:bE))
def sn:Option (cg) :=
 (some ({l:=[]}:cg))
def uQ (a:Int):Option (ai) :=
 (uY.bind fun b=>(tL.bind fun c=>(qF.bind fun d=>(sn.bind fun e=>(some ({wide:=a,cI:=(1:Int),store:=(some b),fw:=(some c),last:=(some d),book:=(some e),open_:=[],out:=[],used:=[]}:ai))))))
def gH (b:bN) (c:Int) (a:(Int)):Option ((Int) ⊕ (Int)) :=
 (bif (decide (a<((b.l).length:Int))) then ((dC b.l a).bind fun d=>((some ()).bind fun _=>(bif (decide (d.ae≤c)) then (bG (some a)) else (some (Sum.inl (IntKind.i64.wrap (a+(1:Int)))))))) else (bG (some ((-1):Int))))
def fX (a:(Option bN)) (b:Int):Option (Bool) :=
 (match a with | none=>none | some c=>(((bA (gH c b) (0:Int)).bind fun d=>(some (decide (d≥(0:Int))))).bind fun e=>(some e)))
def lD (b:(Option ai)):Option (Bool) :=
 (match b with | none=>none | some a=>((fX a.fw a.cI).bind fun c=>(some (!c))))
def kw (b:(Option ai)) (c:aG):Option (bU×(Option ai)) :=
 (match b with | none=>none | some a=>(bif (c.ae !=a.cI) then (some (cD,(some a))) else ((lD (some a)).bind fun d=>(bif (!d) then (some (cD,(some a))) else (bif (decide ((IntKind.u64.wrap (a.cI+(1:Int)))>(9:Int))) then none else (some (({Kind:=(1:Int),ID:=({ab:=(0:Int),Seq:=(0:Int)}:cy),R:=ct}:bU),(some ({a with cI:=(IntKind.u64.wrap (a.cI+(1:Int)))}:ai)))))))))
def kU (a:Int):Option (Bool) :=
 (some (a !=a))
def eO (a b:Int):Option (Int) :=
 ((kU a).bind fun d=>((kU b).bind fun c=>(bif d then (bif c then (some (0:Int)) else (some ((-1):Int))) else (bif c then (some (1:Int)) else (bif (decide (a<b)) then (some ((-1):Int)) else (bif (decide (a>b)) then (some (1:Int)) else (some (0:Int))))))))
def nY (b:(List Int)) (a:(Int)):Option ((Int) ⊕ (Int)) :=
 (bif (decide (a<((b).length:Int))) then ((dC b a).bind fun c=>(bif (c !=(0:Int)) then (bG (some c)) else (some (Sum.inl (IntKind.i64.wrap (a+(1:Int))))))) else (bG (some (0:Int))))
def rV (a:(List Int)):Option (Int) :=
 (bA (nY a) (0:Int))
def mE (a:aw) (b:cy):Option (Int) :=
 ((eO a.ID.ab b.ab).bind fun c=>((eO a.ID.Seq b.Seq).bind fun d=>((rV ([c,d])).bind fun e=>(some e))))
def je (c:bN) (d:cy) (s:(Int×Int)):Option ((Int×Int) ⊕ (Int)) :=
 match s with | (b,a)=>(bif (decide (a<b)) then ((dC c.l (IntKind.i64.wrap (js .u64 (IntKind.u64.wrap (IntKind.i64.wrap (a+b))) (1:Int)))).bind fun e=>((mE e d).bind fun f=>(bif (decide (f<(0:Int))) then (some (Sum.inl (b,(IntKind.i64.wrap ((IntKind.i64.wrap (js .u64 (IntKind.u64.wrap (IntKind.i64.wrap (a+b))) (1:Int)))+(1:Int)))))) else (some (Sum.inl ((IntKind.i64.wrap (js .u64 (IntKind.u64.wrap (IntKind.i64.wrap (a+b))) (1:Int))),a)))))) else (bG (some a)))
def mK (b:bN) (c:cy) (a:(Int)):Option (Int×Bool) :=
 (bif (decide (a<((b.l).length:Int))) then ((dC b.l a).bind fun d=>((mE d c).bind fun e=>(some (a,(e==(0:Int)))))) else (some (a,false)))
def iD (c:(Option bN)) (b:cy):Option (Int×Bool) :=
 (match c with | none=>none | some a=>((((bA (je a b) (((a.l).length:Int),(0:Int)))).bind (mK a b)).bind fun (d,e)=>(some (d,e))))
def jh (c:(Option bN)) (d:cy):Option (aw×Bool) :=
 (match c with | none=>none | some a=>((iD (some a) d).bind fun b=>(bif (!b.2) then (some (dX,false)) else ((dC a.l b.1).bind fun e=>(some (e,true))))))
def tY (a:Nat):Option (Bool) :=
 (some (fNe a a))
def dS (a:Nat):Option (Int) :=
 ((tY a).bind fun b=>(bif b then (some (18446744073709551615:Int)) else (bif ((js .u64 (Int.ofNat a) (63:Int))==(1:Int)) then (some (Er .u64 ((18446744073709551615):Int) (Int.ofNat a))) else (some (bOr .u64 (Int.ofNat a) (9223372036854775808:Int))))))
def kT (a b:Nat):Option (Bool) :=
 ((dS a).bind fun c=>((dS b).bind fun d=>(some (c==d))))
def qY (a b:(Nat×Nat)):Option (Bool) :=
 ((kT a.1 b.1).bind fun c=>(bif c then ((kT a.2 b.2).bind fun d=>(some d)) else (some false)))
def gM (b c:(List Int)) (a:(Int)):Option ((Int) ⊕ (Bool)) :=
 (bif (decide (a<((b).length:Int))) then ((dC b a).bind fun d=>((dC c a).bind fun e=>(bif (d !=e) then (bG (some false)) else (some (Sum.inl (IntKind.i64.wrap (a+(1:Int)))))))) else (bG (some true)))
def dT (a b:(List Int)):Option (Bool) :=
 (bif (((a).length:Int) !=((b).length:Int)) then (some false) else (bA (gM a b) (0:Int)))
def mH (b c:aw) (a:(Int)):Option ((Int) ⊕ (Bool)) :=
 (bif (decide (a<((b.dO).length:Int))) then ((dC b.dO a).bind fun d=>((dC c.dO a).bind fun e=>((kT d e).bind fun f=>(bif (!f) then (bG (some false)) else (some (Sum.inl (IntKind.i64.wrap (a+(1:Int))))))))) else (bG (some true)))
def mI (b c:aw) (a:(Int)):Option ((Int) ⊕ (Bool)) :=
 (bif (decide (a<((b.aX).length:Int))) then ((dC b.aX a).bind fun d=>((dC c.aX a).bind fun e=>((qY d e).bind fun f=>(bif (!f) then (bG (some false)) else (some (Sum.inl (IntKind.i64.wrap (a+(1:Int))))))))) else (bG (some true)))
def mC (b c:aw) (a:(Int)):Option ((Int) ⊕ (Bool)) :=
 (bif (decide (a<((b.dD).length:Int))) then ((dC b.dD a).bind fun d=>((dC c.dD a).bind fun e=>((kT d e).bind fun f=>(bif (!f) then (bG (some false)) else (some (Sum.inl (IntKind.i64.wrap (a+(1:Int))))))))) else (bG (some true)))
def sa (a b:aw):Option (Bool) :=
 (bif ((a.ID.ab==b.ID.ab)&&(a.ID.Seq==b.ID.Seq)) then (bif (a.ae==b.ae) then ((bif (((a.dO).length:Int) !=((b.dO).length:Int)) then (some false) else (bA (mH a b) (0:Int))).bind fun c=>(bif c then ((bif (((a.aX).length:Int) !=((b.aX).length:Int)) then (some false) else (bA (mI a b) (0:Int))).bind fun d=>(bif d then ((bif (((a.dD).length:Int) !=((b.dD).length:Int)) then (some false) else (bA (mC a b) (0:Int))).bind fun e=>(bif e then ((dT a.Data b.Data).bind fun f=>(some f)) else (some false))) else (some false))) else (some false))) else (some false)) else (some false))
def od (a b c:Nat):Option (Bool) :=
 ((dS b).bind fun d=>((dS a).bind fun e=>(bif (decide (d≤e)) then ((dS a).bind fun f=>((dS c).bind fun g=>(some (decide (f≤g))))) else (some false))))
def lP (b:aw) (c d:Nat) (a:(Int)):Option ((Int) ⊕ (Int)) :=
 (bif (decide (a<((b.dD).length:Int))) then ((dC b.dD a).bind fun e=>(((od e c d).bind fun f=>(some f)).bind fun g=>(bif g then (bG (some a)) else (some (Sum.inl (IntKind.i64.wrap (a+(1:Int)))))))) else (bG (some ((-1):Int))))
def qX (a:aw) (b c:Nat):Option (Bool) :=
 (((bA (lP a b c) (0:Int)).bind fun d=>(some (decide (d≥(0:Int))))).bind fun e=>(some e))
def nn (b:aw) (c:Nat) (a:(Int)):Option ((Int) ⊕ (Int)) :=
 (bif (decide (a<((b.dO).length:Int))) then ((dC b.dO a).bind fun d=>(((kT c d).bind fun e=>(some e)).bind fun f=>(bif f then (bG (some a)) else (some (Sum.inl (IntKind.i64.wrap (a+(1:Int)))))))) else (bG (some ((-1):Int))))
def mV (b:aw) (d:Nat) (a:(Int)):Option ((Int) ⊕ (Int)) :=
 (bif (decide (a<((b.aX).length:Int))) then ((dC b.aX a).bind fun c=>(((od d c.1 c.2).bind fun e=>(some e)).bind fun f=>(bif f then (bG (some a)) else (some (Sum.inl (IntKind.i64.wrap (a+(1:Int)))))))) else (bG (some ((-1):Int))))
def qG (a:aw) (b:Nat):Option (Bool) :=
 (((bA (nn a b) (0:Int)).bind fun c=>(some (decide (c≥(0:Int))))).bind fun d=>(bif d then (some true) else (((bA (mV a b) (0:Int)).bind fun e=>(some (decide (e≥(0:Int))))).bind fun f=>(some f))))
def nZ (c d:aw) (a:(Int)):Option ((Int) ⊕ (Unit ⊕ (Bool))) :=
 (bif (decide (a<((c.dD).length:Int))) then ((dC c.dD a).bind fun b=>((qX d b b).bind fun e=>(bif e then (bG (bG (some true))) else ((qG d b).bind fun f=>(bif f then (bG (bG (some true))) else (some (Sum.inl (IntKind.i64.wrap (a+(1:Int)))))))))) else (bG (some (Sum.inl ()))))
def oe (b c:aw) (a:(Int)):Option ((Int) ⊕ (Bool)) :=
 (bif (decide (a<((b.dD).length:Int))) then ((dC b.dD a).bind fun d=>((qG c d).bind fun e=>(bif e then (bG (some true)) else (some (Sum.inl (IntKind.i64.wrap (a+(1:Int)))))))) else (bG (some false)))
def qa (a b:aw) (c:Unit):Option (Bool) :=
 (bA (oe a b) (0:Int))
def ub (a b:aw):Option (Bool) :=
 (ia (bA (nZ a b) (0:Int)) (qa b a))
def fJ (a:(List Nat)):Option ((List Nat)) :=
 gd (room ([]:(List Nat)) a) (some a)
def fZ (a:(List (Nat×Nat))):Option ((List (Nat×Nat))) :=
 gd (room ([]:(List (Nat×Nat))) a) (some a)
def fg (a:(List Int)):Option ((List Int)) :=
 gd (room ([]:(List Int)) a) (some a)
def gj (a:(List aw)) (b:Int) (c:(List aw)):Option ((List aw)) :=
 gd (th a b c) (some (ins a b c))
def jd (b:bN) (c:aw) (a:(Int)):Option ((Int) ⊕ (Unit ⊕ (Int×(Option bN)))) :=
 (bif (decide (a<((b.l).length:Int))) then ((dC b.l a).bind fun d=>(bif (!((d.ID.ab==c.ID.ab)&&(d.ID.Seq==c.ID.Seq))) then ((ub d c).bind fun e=>(bif e then (bG (bG (some ((8:Int),(some b))))) else (some (Sum.inl (IntKind.i64.wrap (a+(1:Int))))))) else (some (Sum.inl (IntKind.i64.wrap (a+(1:Int))))))) else (bG (some (Sum.inl ()))))
def kJ (a:aw) (b:bN) (i:Unit):Option (Int×(Option bN)) :=
 ((fJ a.dO).bind fun d=>((fZ a.aX).bind fun e=>((fJ a.dD).bind fun f=>((fg a.Data).bind fun g=>((iD (some b) a.ID).bind fun c=>(bif c.2 then ((dC b.l c.1).bind fun j=>(some ((0:Int),(some ({l:=(b.l.set c.1.toNat ({a with dO:=d,aX:=e,dD:=f,Data:=g}:aw))}:bN))))) else ((gj b.l c.1 ([({a with dO:=d,aX:=e,dD:=f,Data:=g}:aw)])).bind fun h=>(some ((0:Int),(some ({l:=h}:bN)))))))))))
def jH (c:(Option bN)) (a:aw):Option (Int×(Option bN)) :=
 (match c with | none=>none | some b=>(ia (bA (jd b a) (0:Int)) (kJ a b)))
def fG (a:ai) (c:aw) (d:Unit):Option (Int×(Option ai)) :=
 ((jH a.fw c).bind fun b=>(some (b.1,(some ({a with fw:=b.2}:ai)))))
def qC (b:aw) (a:ai) (s:(Int×Int×Int×(List Nat)×(List (Nat×Nat))×(List Nat)×(List Int)×Bool)):Option (Int×(Option ai)) :=
 match s with | (d,e,c,f,g,h,i,j)=>(ia (bif j then ((sa ({ID:=({ab:=d,Seq:=e}:cy),ae:=c,dO:=f,aX:=g,dD:=h,Data:=i}:aw) b).bind fun k=>(bif k then (bG (some ((0:Int),(some a)))) else (bif (decide (b.ID.ab<(9223372036854775808:Int))) then (bG (some ((8:Int),(some a)))) else (bif (decide (b.ae≤c)) then (bG (some ((8:Int),(some a)))) else (some (Sum.inl ())))))) else (bif (b.ae !=a.cI) then (bG (some ((9:Int),(some a)))) else (some (Sum.inl ())))) (fG a b))
def lR (d:(Option ai)) (b:aw):Option (Int×(Option ai)) :=
 (match d with | none=>none | some c=>((((jh c.fw b.ID).bind fun a=>(some (a.1.ID.ab,a.1.ID.Seq,a.1.ae,a.1.dO,a.1.aX,a.1.dD,a.1.Data,a.2)))).bind (qC b c)))
def jz (c:cn) (d:Int) (s:(Int×Int)):Option ((Int×Int) ⊕ (Int)) :=
 match s with | (a,b)=>(bif (decide (a<b)) then (((dC c.rows (IntKind.i64.wrap (js .u64 (IntKind.u64.wrap (IntKind.i64.wrap (a+b))) (1:Int)))).bind fun e=>(some (decide (e.eW≥d)))).bind fun f=>(bif (!f) then (some (Sum.inl ((IntKind.i64.wrap ((IntKind.i64.wrap (js .u64 (IntKind.u64.wrap (IntKind.i64.wrap (a+b))) (1:Int)))+(1:Int))),b))) else (some (Sum.inl (a,(IntKind.i64.wrap (js .u64 (IntKind.u64.wrap (IntKind.i64.wrap (a+b))) (1:Int)))))))) else (bG (some a)))
def jl (d:(Option cn)) (c:Int):Option (Int×Bool) :=
 (match d with | none=>none | some a=>((bA (jz a c) ((0:Int),((a.rows).length:Int))).bind fun b=>(bif (decide (b<((a.rows).length:Int))) then ((dC a.rows b).bind fun e=>(some (b,(e.eW==c)))) else (some (b,false)))))
def tx (c:(List bf)) (d:Int) (s:(Int×Int)):Option ((Int×Int) ⊕ (Int)) :=
 match s with | (a,b)=>(bif (decide (a<b)) then (((dC c (IntKind.i64.wrap (js .u64 (IntKind.u64.wrap (IntKind.i64.wrap (a+b))) (1:Int)))).bind fun e=>(some (decide (e.ae>d)))).bind fun f=>(bif (!f) then (some (Sum.inl ((IntKind.i64.wrap ((IntKind.i64.wrap (js .u64 (IntKind.u64.wrap (IntKind.i64.wrap (a+b))) (1:Int)))+(1:Int))),b))) else (some (Sum.inl (a,(IntKind.i64.wrap (js .u64 (IntKind.u64.wrap (IntKind.i64.wrap (a+b))) (1:Int)))))))) else (bG (some a)))
def rU (a:(List bf)) (d:Int):Option (cC) :=
 ((bA (tx a d) ((0:Int),((a).length:Int))).bind fun b=>(bif (b==(0:Int)) then (some ({Has:=false,Val:=[]}:cC)) else ((dC a (IntKind.i64.wrap (b - (1:Int)))).bind fun c=>(bif c.Del then (some ({Has:=false,Val:=[]}:cC)) else ((fg c.Val).bind fun e=>(some ({Has:=true,Val:=e}:cC)))))))
def fv (c:(Option cn)) (d:Nat) (e:Int):Option (cC) :=
 (match c with | none=>none | some a=>((dS d).bind fun f=>((jl (some a) f).bind fun b=>(bif (!b.2) then (some ({Has:=false,Val:=[]}:cC)) else ((dC a.rows b.1).bind fun g=>((rU g.l e).bind fun h=>(some h)))))))
def eP (a:Int):Option (Nat) :=
 (bif ((js .u64 a (63:Int))==(1:Int)) then (some (Int.toNat (yP .u64 a (9223372036854775808:Int)))) else (some (Int.toNat (Er .u64 ((18446744073709551615):Int) a))))
def jA (e:cn) (g:Nat) (h i:Int) (s:((List bP)×Int)):Option (((List bP)×Int) ⊕ ((List bP))) :=
 match s with | (a,b)=>(bif (decide (b<((e.rows).length:Int))) then ((dC e.rows b).bind fun c=>((dS g).bind fun j=>(bif (decide (c.eW≤j)) then (bif (decide (((a).length:Int)<h)) then ((rU c.l i).bind fun d=>(bif d.Has then ((eP c.eW).bind fun f=>(gd (room a ([({At:=f,Val:=d.Val}:bP)])) (some (Sum.inl ((a++([({At:=f,Val:=d.Val}:bP)])),(IntKind.i64.wrap (b+(1:Int)))))))) else (some (Sum.inl (a,(IntKind.i64.wrap (b+(1:Int)))))))) else (bG (some a))) else (bG (some a))))) else (bG (some a)))
def ib (b:(Option cn)) (c d:Nat) (e f:Int):Option ((List bP)) :=
 (match b with | none=>none | some a=>((dS c).bind fun g=>((jl (some a) g).bind fun h=>(bA (jA a d f e) ([],h.1)))))
def jD (c:aw) (e:ai) (s:((List cC)×Int)):Option (((List cC)×Int) ⊕ ((List cC))) :=
 match s with | (a,b)=>(bif (decide (b<((c.dO).length:Int))) then ((dC c.dO b).bind fun f=>((fv e.store f (18446744073709551615:Int)).bind fun d=>(gd (room a ([d])) (some (Sum.inl ((a++([d])),(IntKind.i64.wrap (b+(1:Int))))))))) else (bG (some a)))
def ij (c:aw) (f:ai) (g:(List cC)) (s:((List (List bP))×Int)):Option (((List (List bP))×Int) ⊕ (bB)) :=
 match s with | (a,b)=>(bif (decide (b<((c.aX).length:Int))) then ((dC c.aX b).bind fun d=>((ib f.store d.1 d.2 (18446744073709551615:Int) (64:Int)).bind fun e=>(gd (room a ([e])) (some (Sum.inl ((a++([e])),(IntKind.i64.wrap (b+(1:Int))))))))) else (bG (some ({E:=(0:Int),ae:=(0:Int),Index:=(0:Int),dU:=g,aX:=a}:bB))))
def nH (a:aw) (b:ai) (c:((List cC))):Option (bB) :=
 (bA (ij a b c) ([],(0:Int)))
def lQ (c:(Option ai)) (a:aw):Option (bB) :=
 (match c with | none=>none | some b=>(((bA (jD a b) ([],(0:Int)))).bind (nH a b)))
def lh (c:(Option ai)) (b:aG):Option (bU×(Option ai)) :=
 ((lR c b.br).bind fun a=>(bif (a.1==(0:Int)) then ((lQ a.2 b.br).bind fun d=>(some (({Kind:=(2:Int),ID:=b.br.ID,R:=d}:bU),a.2))) else (some (({Kind:=(2:Int),ID:=b.br.ID,R:=({E:=a.1,ae:=(0:Int),Index:=(0:Int),dU:=[],aX:=[]}:bB)}:bU),a.2))))
def gn (a:(List aw)) (b c:Int):Option ((List aw)) :=
 gd (fits a b c) (some (del a b c))
def lc (c:(Option bN)) (d:cy):Option (Bool×(Option bN)) :=
 (match c with | none=>none | some b=>((iD (some b) d).bind fun a=>(bif a.2 then ((gn b.l a.1 (IntKind.i64.wrap (a.1+(1:Int)))).bind fun e=>(some (a.2,(some ({l:=e}:bN))))) else (some (a.2,(some b))))))
def hK (a:(List (List Value))) (b:Int) (c:(List (List Value))):Option ((List (List Value))) :=
 gd (th a b c) (some (ins a b c))
def gq (a:(List bW)) (b:Int) (c:(List bW)):Option ((List bW)) :=
 gd (th a b c) (some (ins a b c))
def se (a:bf) (b c:Int):Option (Bool) :=
 (bif (decide (a.ae<b)) then (some true) else (bif (a.ae==b) then (some (decide (a.Index<c))) else (some false)))
def fb (a:(List bf)) (b:Int) (c:(List bf)):Option ((List bf)) :=
 gd (th a b c) (some (ins a b c))
def kg (d:bW) (c:bf) (s:(Int×Int)):Option ((Int×Int) ⊕ (Int)) :=
 match s with | (a,b)=>(bif (decide (a<b)) then (((dC d.l (IntKind.i64.wrap (js .u64 (IntKind.u64.wrap (IntKind.i64.wrap (a+b))) (1:Int)))).bind fun e=>((se e c.ae c.Index).bind fun f=>(some (!f)))).bind fun g=>(bif (!g) then (some (Sum.inl ((IntKind.i64.wrap ((IntKind.i64.wrap (js .u64 (IntKind.u64.wrap (IntKind.i64.wrap (a+b))) (1:Int)))+(1:Int))),b))) else (some (Sum.inl (a,(IntKind.i64.wrap (js .u64 (IntKind.u64.wrap (IntKind.i64.wrap (a+b))) (1:Int)))))))) else (bG (some a)))
def lY (b:bW) (c:Int) (a:bf) (d:(List Int)) (e:cn) (f:(Int×Bool)) (h:Unit):Option ((Option cn)) :=
 ((fb b.l c ([({a with Val:=d}:bf)])).bind fun g=>(some (some ({rows:=(e.rows.set f.1.toNat ({eW:=b.eW,l:=g}:bW))}:cn))))
def mw (d:(Int×Bool)) (a:bf) (f:(List Int)) (e:(cn)):Option ((Option cn)) :=
 ((dC e.rows d.1).bind fun b=>((bA (kg b a) ((0:Int),((b.l).length:Int))).bind fun c=>(ia (bif (decide (c<((b.l).length:Int))) then ((dC b.l c).bind fun g=>(bif (g.ae==a.ae) then (bif (g.Index==a.Index) then (bG (some (some ({rows:=(e.rows.set d.1.toNat ({eW:=b.eW,l:=(b.l.set c.toNat ({a with Val:=f}:bf))}:bW))}:cn)))) else (some (Sum.inl ()))) else (some (Sum.inl ())))) else (some (Sum.inl ()))) (lY b c a f e d))))
def oD (c:Nat) (a:cn) (d:bf) (e:((List Int))):Option ((Option cn)) :=
 ((dS c).bind fun f=>((jl (some a) f).bind fun b=>(((bif (!b.2) then ((dS c).bind fun g=>((gq a.rows b.1 ([({eW:=g,l:=[]}:bW)])).bind fun h=>(some ({rows:=h}:cn)))) else (some a))).bind (mw b d e))))
def jT (b:(Option cn)) (c:Nat) (a:bf):Option ((Option cn)) :=
 (match b with | none=>none | some d=>((fg a.Val).bind fun e=>(((bif a.Del then (some ([])) else (some e))).bind (oD c d a))))
def gG (b:aG) (s:(ai×Int)):Option ((ai×Int) ⊕ (ai)) :=
 match s with | (a,c)=>(bif (decide (c<((b.cw).length:Int))) then ((dC b.cw c).bind fun d=>((jT a.store d.At ({b with Del:=d.Del,Val:=d.Val}:bf)).bind fun e=>(some (Sum.inl (({a with store:=e}:ai),(IntKind.i64.wrap (c+(1:Int)))))))) else (bG (some a)))
def oI (a:aG) (b:(ai)):Option (bU×(Option ai)) :=
 (some (({Kind:=(3:Int),ID:=a.ID,R:=ct}:bU),(some b)))
def jZ (d:(Option ai)) (b:aG):Option (bU×(Option ai)) :=
 (match d with | none=>none | some a=>((((lc a.fw b.ID).bind fun c=>(bif c.1 then (bif (b.E==(0:Int)) then (bA (gG b) (({a with fw:=c.2}:ai),(0:Int))) else (some ({a with fw:=c.2}:ai))) else (some ({a with fw:=c.2}:ai))))).bind (oI b)))
def iH (a:aZ) (b:Int):Option (Int) :=
 ((eO a.cV b).bind fun c=>(some c))
def gY (c:bE) (d:Int) (s:(Int×Int)):Option ((Int×Int) ⊕ (Int)) :=
 match s with | (b,a)=>(bif (decide (a<b)) then ((dC c.l (IntKind.i64.wrap (js .u64 (IntKind.u64.wrap (IntKind.i64.wrap (a+b))) (1:Int)))).bind fun e=>((iH e d).bind fun f=>(bif (decide (f<(0:Int))) then (some (Sum.inl (b,(IntKind.i64.wrap ((IntKind.i64.wrap (js .u64 (IntKind.u64.wrap (IntKind.i64.wrap (a+b))) (1:Int)))+(1:Int)))))) else (some (Sum.inl ((IntKind.i64.wrap (js .u64 (IntKind.u64.wrap (IntKind.i64.wrap (a+b))) (1:Int))),a)))))) else (bG (some a)))
def lE (b:bE) (c:Int) (a:(Int)):Option (Int×Bool) :=
 (bif (decide (a<((b.l).length:Int))) then ((dC b.l a).bind fun d=>((iH d c).bind fun e=>(some (a,(e==(0:Int)))))) else (some (a,false)))
def gB (c:(Option bE)) (b:Int):Option (Int×Bool) :=
 (match c with | none=>none | some a=>((((bA (gY a b) (((a.l).length:Int),(0:Int)))).bind (lE a b)).bind fun (d,e)=>(some (d,e))))
def fk (a:(List aZ)) (b:Int) (c:(List aZ)):Option ((List aZ)) :=
 gd (th a b c) (some (ins a b c))
def jU (b:(Int×Bool)) (c:Int) (e:bB) (d:(bE)):Option (Int×(Option bE)) :=
 ((dC d.l b.1).bind fun a=>(some ((0:Int),(some ({l:=((d.l.set b.1.toNat ({a with seq:=c}:aZ)).set b.1.toNat ({cV:=({a with seq:=c}:aZ).cV,seq:=({a with seq:=c}:aZ).seq,r:=e}:aZ))}:bE)))))
def jP (a:(Int×Bool)) (b:bE) (c d:Int) (e:bB) (g:Unit):Option (Int×(Option bE)) :=
 (((bif (!a.2) then ((fk b.l a.1 ([({cV:=c,seq:=(0:Int),r:=ct}:aZ)])).bind fun f=>(some ({l:=f}:bE))) else (some b))).bind (jU a d e))
def gU (e:(Option bE)) (d b:Int) (f:bB):Option (Int×(Option bE)) :=
 (match e with | none=>none | some a=>(bif (b==(0:Int)) then (some ((1:Int),(some a))) else ((gB (some a) d).bind fun c=>(ia (bif c.2 then ((dC a.l c.1).bind fun g=>(bif (decide (g.seq≥b)) then (bG (some ((10:Int),(some a)))) else (some (Sum.inl ())))) else (some (Sum.inl ()))) (jP c a d b f)))))
def fH (c:(Option bE)) (d:Int):Option (Int) :=
 (match c with | none=>none | some a=>((gB (some a) d).bind fun b=>(bif (!b.2) then (some (0:Int)) else ((dC a.l b.1).bind fun e=>(some e.seq)))))
def kA (b:(Option ai)) (a:cy):Option (bU) :=
 (match b with | none=>none | some c=>((fH c.last a.ab).bind fun d=>(bif (decide (d≤a.Seq)) then (some cD) else (some ({Kind:=(4:Int),ID:=a,R:=({E:=(10:Int),ae:=(0:Int),Index:=(0:Int),dU:=[],aX:=[]}:bB)}:bU)))))
def fx (a:(List dM)):Option ((List dM)) :=
 gd (room ([]:(List dM)) a) (some a)
def jX (a:bH) (b:cy):Option (Int) :=
 ((eO a.ID.ab b.ab).bind fun c=>((eO a.ID.Seq b.Seq).bind fun d=>((rV ([c,d])).bind fun e=>(some e))))
def jI (c:ai) (d:cy) (s:(Int×Int)):Option ((Int×Int) ⊕ (Int)) :=
 match s with | (b,a)=>(bif (decide (a<b)) then ((dC c.open_ (IntKind.i64.wrap (js .u64 (IntKind.u64.wrap (IntKind.i64.wrap (a+b))) (1:Int)))).bind fun e=>((jX e d).bind fun f=>(bif (decide (f<(0:Int))) then (some (Sum.inl (b,(IntKind.i64.wrap ((IntKind.i64.wrap (js .u64 (IntKind.u64.wrap (IntKind.i64.wrap (a+b))) (1:Int)))+(1:Int)))))) else (some (Sum.inl ((IntKind.i64.wrap (js .u64 (IntKind.u64.wrap (IntKind.i64.wrap (a+b))) (1:Int))),a)))))) else (bG (some a)))
def nB (b:ai) (c:cy) (a:(Int)):Option (Int×Bool) :=
 (bif (decide (a<((b.open_).length:Int))) then ((dC b.open_ a).bind fun d=>((jX d c).bind fun e=>(some (a,(e==(0:Int)))))) else (some (a,false)))
def jk (c:(Option ai)) (b:cy):Option (Int×Bool) :=
 (match c with | none=>none | some a=>((((bA (jI a b) (((a.open_).length:Int),(0:Int)))).bind (nB a b)).bind fun (d,e)=>(some (d,e))))
def eE (a:(List bH)) (b:Int) (c:(List bH)):Option ((List bH)) :=
 gd (th a b c) (some (ins a b c))
def mn (a:ai) (b:(Int×(Option bE))) (c:aG) (d e:Int) (f:((List dM))):Option (ai) :=
 ((jk (some ({a with last:=b.2}:ai)) c.ID).bind fun g=>((eE (({a with last:=b.2}:ai).open_) g.1 ([({c with E:=d,Index:=e,dN:=f}:bH)])).bind fun h=>(some ({wide:=({a with last:=b.2}:ai).wide,cI:=({a with last:=b.2}:ai).cI,store:=({a with last:=b.2}:ai).store,fw:=({a with last:=b.2}:ai).fw,last:=({a with last:=b.2}:ai).last,book:=({a with last:=b.2}:ai).book,open_:=h,out:=({a with last:=b.2}:ai).out,used:=({a with last:=b.2}:ai).used}:ai))))
def mg (a:aG) (b c:Int) (d:(List cC)) (e:(List (List bP))) (f:(ai)):Option (bU×(Option ai)) :=
 (some (({Kind:=(4:Int),ID:=a.ID,R:=({E:=b,ae:=a.ae,Index:=c,dU:=d,aX:=e}:bB)}:bU),(some f)))
def mj (a:ai) (b:aG) (d e:Int) (f:(List cC)) (g:(List (List bP))) (j:Unit):Option (bU×(Option ai)) :=
 ((gU a.last b.ID.ab b.ID.Seq ({E:=d,ae:=b.ae,Index:=e,dU:=f,aX:=g}:bB)).bind fun c=>(bif (c.1 !=(0:Int)) then ((kA (some ({a with last:=c.2}:ai)) b.ID).bind fun h=>(some (h,(some ({a with last:=c.2}:ai))))) else (((bif (b.bY !=(0:Int)) then (((bif (d==(0:Int)) then ((fx b.dN).bind fun i=>(some i)) else (some ([])))).bind (mn a c b d e)) else (some ({a with last:=c.2}:ai)))).bind (mg b d e f g))))
def jQ (a:aG) (b:ai) (d:Int) (s:(Int×(List cC)×(List (List bP)))):Option (bU×(Option ai)) :=
 match s with | (c,e,f)=>(ia (bif (c !=(0:Int)) then (bif (decide (a.ID.ab≥(9223372036854775808:Int))) then (bG (some (cD,(some b)))) else (some (Sum.inl ()))) else (some (Sum.inl ()))) (mj b a c d e f))
def ja (c:(Option ai)) (d:Int) (a:aG):Option (bU×(Option ai)) :=
 (match c with | none=>none | some b=>(((bif (a.R.E==(0:Int)) then (bif (a.ae !=b.cI) then (some ((9:Int),[],[])) else (some (a.R.E,a.R.dU,a.R.aX))) else (some (a.R.E,a.R.dU,a.R.aX)))).bind (jQ a b d)))
def eD (a:(List bH)) (b c:Int):Option ((List bH)) :=
 gd (fits a b c) (some (del a b c))
def hH (f:cg) (g e:Int) (s:(cg×Int×Bool)):Option ((cg×Int×Bool) ⊕ (Bool×(Option cg))) :=
 match s with | (b,a,d)=>(bif (decide (a<((f.l).length:Int))) then ((dC b.l a).bind fun c=>(bif (c.r.ID==g) then (bif (c.to_==(0:Int)) then (some (Sum.inl (({l:=(b.l.set a.toNat ({c with to_:=(if (1:Int)>e then (1:Int) else e)}:dj))}:cg),(IntKind.i64.wrap (a+(1:Int))),true))) else (some (Sum.inl (b,(IntKind.i64.wrap (a+(1:Int))),d)))) else (some (Sum.inl (b,(IntKind.i64.wrap (a+(1:Int))),d))))) else (bG (some (d,(some b)))))
def gF (b:(Option cg)) (c d:Int):Option (Bool×(Option cg)) :=
 (match b with | none=>none | some a=>(bA (hH a c d) (a,(0:Int),false)))
def jb (d:(Option cg)) (a:dV) (b:Int):Option ((Option cg)) :=
 (match d with | none=>none | some e=>((gF (some e) a.ID b).bind fun f=>(match f.2 with | none=>none | some c=>(gd (room c.l ([({r:=a,from_:=b,to_:=(0:Int)}:dj)])) (some (some ({l:=(c.l++([({r:=a,from_:=b,to_:=(0:Int)}:dj)]))}:cg)))))))
def kc (a:da) (b:Int):Option (Int) :=
 ((eO a.jW b).bind fun c=>(some c))
def fa (a:(List da)) (b:Int) (c:(List da)):Option ((List da)) :=
 gd (th a b c) (some (ins a b c))
def ux (a:bK) (b:((List Int))):Option (bK) :=
 (some ({a with Val:=b}:bK))
def wg (b:bK) (a:Int):Option (bK) :=
 (gd (Iy (if (0:Int)>a then (0:Int) else a) (if (0:Int)>a then (0:Int) else a)) (((bif b.Del then (some ([])) else (some (cpy (List.replicate (Int.toNat (if (0:Int)>a then (0:Int) else a)) (0:Int)) b.Val)))).bind (ux b)))
def iy (c:ai) (d:aG) (s:(Int×Int)):Option ((Int×Int) ⊕ (Int)) :=
 match s with | (b,a)=>(bif (decide (a<b)) then ((dC c.used (IntKind.i64.wrap (js .u64 (IntKind.u64.wrap (IntKind.i64.wrap (a+b))) (1:Int)))).bind fun e=>((kc e d.ap.ID).bind fun f=>(bif (decide (f<(0:Int))) then (some (Sum.inl (b,(IntKind.i64.wrap ((IntKind.i64.wrap (js .u64 (IntKind.u64.wrap (IntKind.i64.wrap (a+b))) (1:Int)))+(1:Int)))))) else (some (Sum.inl ((IntKind.i64.wrap (js .u64 (IntKind.u64.wrap (IntKind.i64.wrap (a+b))) (1:Int))),a)))))) else (bG (some a)))
def li (b:ai) (c:aG) (a:(Int)):Option (Int×Bool) :=
 (bif (decide (a<((b.used).length:Int))) then ((dC b.used a).bind fun d=>((kc d c.ap.ID).bind fun e=>(some (a,(e==(0:Int)))))) else (some (a,false)))
def ju (d:ai) (e:aG) (s:(Int×(List dw))):Option ((Int×(List dw)) ⊕ ((List dw))) :=
 match s with | (a,b)=>(bif (decide (a<((d.out).length:Int))) then ((dC d.out a).bind fun c=>(bif (c.To==e.ap.To) then (gd (room b ([c])) (some (Sum.inl ((IntKind.i64.wrap (a+(1:Int))),(b++([c])))))) else (some (Sum.inl ((IntKind.i64.wrap (a+(1:Int))),b))))) else (bG (some b)))
def nE (d:Int) (b:aG) (g:Int) (a:(ai)):Option (ai) :=
 ((dC a.used d).bind fun c=>((dC b.cw (0:Int)).bind fun h=>((bA (ju a b) ((0:Int),[])).bind fun e=>((wg h a.wide).bind fun f=>(gd (room a.out ([({To:=b.ap.To,N:=(IntKind.u64.wrap (IntKind.i64.wrap (((e).length:Int)+(1:Int)))),ap:=b.ap.ID,ae:=b.ae,W:=f}:dw)])) (some ({a with out:=(a.out++([({To:=b.ap.To,N:=(IntKind.u64.wrap (IntKind.i64.wrap (((e).length:Int)+(1:Int)))),ap:=b.ap.ID,ae:=b.ae,W:=f}:dw)])),used:=((a.used.set d.toNat ({c with cI:=b.ae}:da)).set d.toNat ({jW:=({c with cI:=b.ae}:da).jW,cI:=({c with cI:=b.ae}:da).cI,n:=(IntKind.i64.wrap (g+(1:Int)))}:da))}:ai)))))))
def nw (a:aG) (b c:Int) (d:(ai)):Option (bU×(Option ai)) :=
 (some (({Kind:=(4:Int),ID:=a.ID,R:=({E:=b,ae:=a.ae,Index:=c,dU:=[],aX:=[]}:bB)}:bU),(some d)))
def lz (a:ai) (b:aG) (e:Int) (g:Bool) (f h:Int) (d:(Int)):Option (bU×(Option ai)) :=
 ((gU a.last b.ID.ab b.ID.Seq ({E:=d,ae:=b.ae,Index:=e,dU:=[],aX:=[]}:bB)).bind fun c=>(bif (c.1 !=(0:Int)) then ((kA (some ({a with last:=c.2}:ai)) b.ID).bind fun i=>(some (i,(some ({a with last:=c.2}:ai))))) else (((bif (d==(0:Int)) then (((bif (!g) then ((fa a.used f ([({jW:=b.ap.ID,cI:=(0:Int),n:=(0:Int)}:da)])).bind fun j=>(some ({a with last:=c.2,used:=j}:ai))) else (some ({a with last:=c.2}:ai)))).bind (nE f b h)) else (some ({a with last:=c.2}:ai)))).bind (nw b d e))))
def nC (a:aG) (b:ai) (d:Int) (e:Bool) (f:Int) (c:(Int)):Option (bU×(Option ai)) :=
 (((bif (a.R.E !=(0:Int)) then (some a.R.E) else (bif (a.ae !=b.cI) then (some (9:Int)) else (bif (((a.cw).length:Int) !=(1:Int)) then (some (1:Int)) else (bif (decide (c≥a.ap.cx)) then (some (13:Int)) else (some a.R.E)))))).bind (lz b a d e f c))
def kr (f:(Option ai)) (g:Int) (b:aG):Option (bU×(Option ai)) :=
 (match f with | none=>none | some a=>((((bA (iy a b) (((a.used).length:Int),(0:Int)))).bind (li a b)).bind fun (c,d)=>(((bif d then ((dC a.used c).bind fun e=>(bif (e.cI==b.ae) then (some e.n) else (some (0:Int)))) else (some (0:Int)))).bind (nC b a g d c))))
def df (j:(Option ai)) (d:Int) (b:aG):Option (bU×(Option ai)) :=
 (match j with | none=>none | some a=>(bif (b.Kind==(1:Int)) then ((kw (some a) b).bind fun e=>(match e.2 with | none=>none | some k=>(some (e.1,(some k))))) else (bif (b.Kind==(2:Int)) then ((lh (some a) b).bind fun f=>(match f.2 with | none=>none | some l=>(some (f.1,(some l))))) else (bif (b.Kind==(3:Int)) then ((jZ (some a) b).bind fun g=>(match g.2 with | none=>none | some m=>(some (g.1,(some m))))) else (bif (b.Kind==(4:Int)) then ((ja (some a) d b).bind fun h=>(match h.2 with | none=>none | some n=>(some (h.1,(some n))))) else (bif (b.Kind==(5:Int)) then ((jk (some a) b.ID).bind fun c=>(bif c.2 then ((eD a.open_ c.1 (IntKind.i64.wrap (c.1+(1:Int)))).bind fun o=>(some (cD,(some ({a with open_:=o}:ai))))) else (some (cD,(some a))))) else (bif (b.Kind==(6:Int)) then (bif b.On then ((jb a.book b.ap a.cI).bind fun p=>(some (cD,(some ({a with book:=p}:ai))))) else ((gF a.book b.ap.ID a.cI).bind fun q=>(some (cD,(some ({a with book:=q.2}:ai)))))) else (bif (b.Kind==(7:Int)) then ((kr (some a) d b).bind fun i=>(match i.2 with | none=>none | some s=>(some (i.1,(some s))))) else (some (cD,(some a)))))))))))
def kZ (a:(Option ai)):Option (Int) :=
 (match a with | none=>none | some b=>(some b.cI))
def oZ:Option (Bool) :=
 ((uQ (4:Int)).bind fun b=>((df (some b) (1:Int) ({Kind:=(1:Int),ID:=({ab:=(0:Int),Seq:=(0:Int)}:cy),ae:=(1:Int),Index:=(0:Int),E:=(0:Int),br:=dX,cw:=[],R:=ct,bY:=(0:Int),dN:=[],ap:=dY,On:=false}:aG)).bind fun a=>(match a.2 with | none=>none | some c=>(bif (a.1.Kind==(1:Int)) then ((kZ (some c)).bind fun d=>(bif (d==(2:Int)) then (some true) else none)) else none))))
def xk (a:Int):Option (aq) :=
 (some ({zx:=a,ae:=(1:Int),V:=[],H:=[],A:=[],B:=[],Open:=[],Out:=[],pR:=[]}:aq))
def jv (a:ao) (b:(List Int)):Option (ao) :=
 (gd (room a.p b) (some ({p:=(a.p++b)}:ao)))
def jf (c d:Int) (s:(ao×Int)):Option ((ao×Int) ⊕ (ao)) :=
 match s with | (b,a)=>(bif (decide (a<c)) then (gd (decide ((0:Int)≤(IntKind.i64.wrap ((8:Int)*a)))) ((jv b ([(IntKind.u8.wrap (js .u64 d (IntKind.i64.wrap ((8:Int)*a))))])).bind fun e=>(some (Sum.inl (e,(IntKind.i64.wrap (a+(1:Int)))))))) else (bG (some b)))
def ax (a:ao) (b c:Int):Option (ao) :=
 (bA (jf c b) (a,(0:Int)))
def oT (a:(Option cn)):Option (Int) :=
 (match a with | none=>none | some b=>(some ((b.rows).length:Int)))
def iQ (a:ao) (b:Bool):Option (ao) :=
 (bif b then ((ax a (1:Int) (1:Int)).bind fun c=>(some c)) else ((ax a (0:Int) (1:Int)).bind fun d=>(some d)))
def ef (b:ao) (a:(List Int)):Option (ao) :=
 ((ax b (IntKind.u64.wrap ((a).length:Int)) (4:Int)).bind fun c=>((jv c a).bind fun d=>(some d)))
def dF (a:ao):Option ((List Int)) :=
 (some a.p)
def iA (c:bW) (e:Int) (s:(ao×Int)):Option ((ao×Int) ⊕ ((ao×Int) ⊕ ((List Int)))) :=
 match s with | (d,b)=>(bif (decide (b<((c.l).length:Int))) then ((dC c.l b).bind fun a=>((ax d a.ae (8:Int)).bind fun f=>((ax f a.Index (8:Int)).bind fun g=>((iQ g a.Del).bind fun h=>((ef h a.Val).bind fun i=>(some (Sum.inl (i,(IntKind.i64.wrap (b+(1:Int))))))))))) else (bG (some (Sum.inl (d,(IntKind.i64.wrap (e+(1:Int))))))))
def jN (c:cn) (s:(ao×Int)):Option ((ao×Int) ⊕ ((List Int))) :=
 match s with | (d,a)=>(bif (decide (a<((c.rows).length:Int))) then ((dC c.rows a).bind fun b=>((ax d b.eW (8:Int)).bind fun e=>((ax e (IntKind.u64.wrap ((b.l).length:Int)) (4:Int)).bind fun f=>(bA (iA b a) (f,(0:Int)))))) else (bG ((dF d).bind fun g=>(some g))))
def kj (b:(Option cn)):Option ((List Int)) :=
 (match b with | none=>none | some a=>((oT (some a)).bind fun c=>((ax ({p:=[]}:ao) (IntKind.u64.wrap c) (4:Int)).bind fun d=>(bA (jN a) (d,(0:Int))))))
def jj (a:(Option bN)):Option (Int) :=
 (match a with | none=>none | some b=>(some ((b.l).length:Int)))
def vD (b:aw) (s:(ao×Int)):Option ((ao×Int) ⊕ (ao)) :=
 match s with | (c,a)=>(bif (decide (a<((b.dO).length:Int))) then ((dC b.dO a).bind fun d=>((dS d).bind fun e=>((ax c e (8:Int)).bind fun f=>(some (Sum.inl (f,(IntKind.i64.wrap (a+(1:Int))))))))) else (bG (some c)))
def rh (b:aw) (s:(ao×Int)):Option ((ao×Int) ⊕ (ao)) :=
 match s with | (c,a)=>(bif (decide (a<((b.aX).length:Int))) then ((dC b.aX a).bind fun d=>((dS d.1).bind fun e=>((ax c e (8:Int)).bind fun f=>((dS d.2).bind fun g=>((ax f g (8:Int)).bind fun h=>(some (Sum.inl (h,(IntKind.i64.wrap (a+(1:Int))))))))))) else (bG (some c)))
def vK (b:aw) (s:(ao×Int)):Option ((ao×Int) ⊕ (ao)) :=
 match s with | (c,a)=>(bif (decide (a<((b.dD).length:Int))) then ((dC b.dD a).bind fun d=>((dS d).bind fun e=>((ax c e (8:Int)).bind fun f=>(some (Sum.inl (f,(IntKind.i64.wrap (a+(1:Int))))))))) else (bG (some c)))
def vF (a:aw) (b:(ao)):Option (ao) :=
 ((ef b a.Data).bind fun c=>(some c))
def vy (a:aw) (b:(ao)):Option (ao) :=
 ((ax b (IntKind.u64.wrap ((a.dD).length:Int)) (4:Int)).bind fun c=>(((bA (vK a) (c,(0:Int)))).bind (vF a)))
def vH (a:aw) (b:(ao)):Option (ao) :=
 ((ax b (IntKind.u64.wrap ((a.aX).length:Int)) (4:Int)).bind fun c=>(((bA (rh a) (c,(0:Int)))).bind (vy a)))
def uJ (b:ao) (a:aw):Option (ao) :=
 ((ax b a.ID.ab (8:Int)).bind fun c=>((ax c a.ID.Seq (8:Int)).bind fun d=>((ax d a.ae (8:Int)).bind fun e=>((ax e (IntKind.u64.wrap ((a.dO).length:Int)) (4:Int)).bind fun f=>(((bA (vD a) (f,(0:Int)))).bind (vH a))))))
def jq (c:(Int)) (d:bN) (s:(ao×Int)):Option ((ao×Int) ⊕ ((List Int))) :=
 match s with | (b,a)=>(bif (decide (a<c)) then ((dC d.l a).bind fun e=>((uJ b e).bind fun f=>(some (Sum.inl (f,(IntKind.i64.wrap (a+(1:Int)))))))) else (bG ((dF b).bind fun g=>(some g))))
def ir (b:(Option bN)):Option ((List Int)) :=
 (match b with | none=>none | some a=>((jj (some a)).bind fun c=>((ax ({p:=[]}:ao) (IntKind.u64.wrap c) (4:Int)).bind fun d=>((jj (some a)).bind fun e=>(bA (jq e a) (d,(0:Int)))))))
def kb (a:(Option bE)):Option (Int) :=
 (match a with | none=>none | some b=>(some ((b.l).length:Int)))
def kD (b:bB) (s:(ao×Int)):Option ((ao×Int) ⊕ (ao)) :=
 match s with | (c,a)=>(bif (decide (a<((b.dU).length:Int))) then ((dC b.dU a).bind fun d=>((iQ c d.Has).bind fun e=>((ef e d.Val).bind fun f=>(some (Sum.inl (f,(IntKind.i64.wrap (a+(1:Int))))))))) else (bG (some c)))
def jc (b:(List bP)) (e:Int) (s:(ao×Int)):Option ((ao×Int) ⊕ ((ao×Int) ⊕ (ao))) :=
 match s with | (c,a)=>(bif (decide (a<((b).length:Int))) then ((dC b a).bind fun d=>((dS d.At).bind fun f=>((ax c f (8:Int)).bind fun g=>((ef g d.Val).bind fun h=>(some (Sum.inl (h,(IntKind.i64.wrap (a+(1:Int)))))))))) else (bG (some (Sum.inl (c,(IntKind.i64.wrap (e+(1:Int))))))))
def kE (b:bB) (s:(ao×Int)):Option ((ao×Int) ⊕ (ao)) :=
 match s with | (c,a)=>(bif (decide (a<((b.aX).length:Int))) then ((dC b.aX a).bind fun d=>((ax c (IntKind.u64.wrap ((d).length:Int)) (4:Int)).bind fun e=>(bA (jc d a) (e,(0:Int))))) else (bG (some c)))
def pK (a:bB) (b:(ao)):Option (ao) :=
 ((ax b (IntKind.u64.wrap ((a.aX).length:Int)) (4:Int)).bind fun c=>(bA (kE a) (c,(0:Int))))
def mW (b:ao) (a:bB):Option (ao) :=
 ((ax b (IntKind.u64.wrap a.E) (1:Int)).bind fun c=>((ax c a.ae (8:Int)).bind fun d=>((ax d a.Index (8:Int)).bind fun e=>((ax e (IntKind.u64.wrap ((a.dU).length:Int)) (4:Int)).bind fun f=>(((bA (kD a) (f,(0:Int)))).bind (pK a))))))
def iI (d:(Int)) (e:bE) (s:(ao×Int)):Option ((ao×Int) ⊕ ((List Int))) :=
 match s with | (c,a)=>(bif (decide (a<d)) then ((dC e.l a).bind fun b=>((ax c b.cV (8:Int)).bind fun f=>((ax f b.seq (8:Int)).bind fun g=>((mW g b.r).bind fun h=>(some (Sum.inl (h,(IntKind.i64.wrap (a+(1:Int)))))))))) else (bG ((dF c).bind fun i=>(some i))))
def gy (b:(Option bE)):Option ((List Int)) :=
 (match b with | none=>none | some a=>((kb (some a)).bind fun c=>((ax ({p:=[]}:ao) (IntKind.u64.wrap c) (4:Int)).bind fun d=>((kb (some a)).bind fun e=>(bA (iI e a) (d,(0:Int)))))))
def lN (a:(Option cg)):Option (Int) :=
 (match a with | none=>none | some b=>(some ((b.l).length:Int)))
def jr (d:(Int)) (e:cg) (s:(ao×Int)):Option ((ao×Int) ⊕ ((List Int))) :=
 match s with | (c,b)=>(bif (decide (b<d)) then ((dC e.l b).bind fun a=>((ax c a.r.ID (8:Int)).bind fun f=>((ax f (IntKind.u64.wrap a.r.dn) (1:Int)).bind fun g=>((ax g (IntKind.u64.wrap a.r.To) (1:Int)).bind fun h=>((dS a.r.Lo).bind fun i=>((ax h i (8:Int)).bind fun j=>((dS a.r.Hi).bind fun k=>((ax j k (8:Int)).bind fun m=>((ax m a.r.Authority (8:Int)).bind fun n=>((ax n (IntKind.u64.wrap a.r.cx) (4:Int)).bind fun o=>((ax o a.from_ (8:Int)).bind fun p=>((ax p a.to_ (8:Int)).bind fun q=>(some (Sum.inl (q,(IntKind.i64.wrap (b+(1:Int)))))))))))))))))) else (bG ((dF c).bind fun t=>(some t))))
def ig (b:(Option cg)):Option ((List Int)) :=
 (match b with | none=>none | some a=>((lN (some a)).bind fun c=>((ax ({p:=[]}:ao) (IntKind.u64.wrap c) (4:Int)).bind fun d=>((lN (some a)).bind fun e=>(bA (jr e a) (d,(0:Int)))))))
def mA (c:(List bK)) (s:(ao×Int)):Option ((ao×Int) ⊕ (ao)) :=
 match s with | (d,a)=>(bif (decide (a<((c).length:Int))) then ((dC c a).bind fun b=>((dS b.At).bind fun e=>((ax d e (8:Int)).bind fun f=>((iQ f b.Del).bind fun g=>((ef g b.Val).bind fun h=>(some (Sum.inl (h,(IntKind.i64.wrap (a+(1:Int))))))))))) else (bG (some d)))
def pf (b:ao) (a:(List bK)):Option (ao) :=
 ((ax b (IntKind.u64.wrap ((a).length:Int)) (4:Int)).bind fun c=>(bA (mA a) (c,(0:Int))))
def iY (b:aG) (s:(ao×Int)):Option ((ao×Int) ⊕ (ao)) :=
 match s with | (c,a)=>(bif (decide (a<((b.dN).length:Int))) then ((dC b.dN a).bind fun d=>((ax c (IntKind.u64.wrap d.oA) (1:Int)).bind fun e=>((pf e d.cw).bind fun f=>(some (Sum.inl (f,(IntKind.i64.wrap (a+(1:Int))))))))) else (bG (some c)))
def lZ (a:aG) (b:(ao)):Option ((List Int)) :=
 ((mW b a.R).bind fun c=>((dF c).bind fun d=>(some d)))
def nf (a:aG):Option ((List Int)) :=
 ((ax ({p:=[]}:ao) (IntKind.u64.wrap a.Kind) (1:Int)).bind fun b=>(bif (a.Kind==(1:Int)) then ((ax b a.ae (8:Int)).bind fun c=>((dF c).bind fun d=>(some d))) else (bif (a.Kind==(2:Int)) then ((uJ b a.br).bind fun e=>((dF e).bind fun f=>(some f))) else (bif (a.Kind==(3:Int)) then (((ax b a.ID.ab (8:Int)).bind fun g=>((ax g a.ID.Seq (8:Int)).bind fun h=>(some h))).bind fun i=>((ax i (IntKind.u64.wrap a.E) (1:Int)).bind fun j=>((ax j a.ae (8:Int)).bind fun k=>((ax k a.Index (8:Int)).bind fun l=>((pf l a.cw).bind fun m=>((dF m).bind fun n=>(some n))))))) else (bif (a.Kind==(4:Int)) then (((ax b a.ID.ab (8:Int)).bind fun o=>((ax o a.ID.Seq (8:Int)).bind fun q=>(some q))).bind fun s=>((ax s a.ae (8:Int)).bind fun t=>((ax t a.bY (2:Int)).bind fun u=>((ax u (IntKind.u64.wrap ((a.dN).length:Int)) (4:Int)).bind fun v=>(((bA (iY a) (v,(0:Int)))).bind (lZ a)))))) else (bif (a.Kind==(5:Int)) then (((ax b a.ID.ab (8:Int)).bind fun x=>((ax x a.ID.Seq (8:Int)).bind fun y=>(some y))).bind fun A=>((dF A).bind fun B=>(some B))) else (bif (a.Kind==(6:Int)) then none else (bif (a.Kind==(7:Int)) then (((ax b a.ID.ab (8:Int)).bind fun C=>((ax C a.ID.Seq (8:Int)).bind fun D=>(some D))).bind fun F=>((ax F a.ae (8:Int)).bind fun H=>none)) else ((dF b).bind fun G=>(some G))))))))))
def iG (c:ai) (s:(ao×Int)):Option ((ao×Int) ⊕ (ao)) :=
 match s with | (d,b)=>(bif (decide (b<((c.open_).length:Int))) then ((dC c.open_ b).bind fun a=>((ax d (IntKind.u64.wrap a.E) (1:Int)).bind fun e=>((nf ({a with Kind:=(4:Int),Index:=(0:Int),E:=(0:Int),br:=dX,cw:=[],R:=({E:=(0:Int),ae:=(0:Int),Index:=a.Index,dU:=[],aX:=[]}:bB),ap:=dY,On:=false}:aG)).bind fun f=>((ef e f).bind fun g=>(some (Sum.inl (g,(IntKind.i64.wrap (b+(1:Int)))))))))) else (bG (some d)))
def iE (c:ai) (s:(ao×Int)):Option ((ao×Int) ⊕ (ao)) :=
 match s with | (d,b)=>(bif (decide (b<((c.out).length:Int))) then ((dC c.out b).bind fun a=>((ax d (IntKind.u64.wrap a.To) (1:Int)).bind fun e=>((ax e a.N (8:Int)).bind fun f=>((ax f a.ap (8:Int)).bind fun g=>((ax g a.ae (8:Int)).bind fun h=>((dS a.W.At).bind fun i=>((ax h i (8:Int)).bind fun j=>((iQ j a.W.Del).bind fun k=>((ef k a.W.Val).bind fun l=>(some (Sum.inl (l,(IntKind.i64.wrap (b+(1:Int))))))))))))))) else (bG (some d)))
def iJ (c:ai) (s:(ao×Int)):Option ((ao×Int) ⊕ ((List Int))) :=
 match s with | (d,a)=>(bif (decide (a<((c.used).length:Int))) then ((dC c.used a).bind fun b=>((ax d b.jW (8:Int)).bind fun e=>((ax e b.cI (8:Int)).bind fun f=>((ax f (IntKind.u64.wrap b.n) (4:Int)).bind fun g=>(some (Sum.inl (g,(IntKind.i64.wrap (a+(1:Int)))))))))) else (bG ((dF d).bind fun h=>(some h))))
def mx (a:ai) (b:(ao)):Option ((List Int)) :=
 ((ax b (IntKind.u64.wrap ((a.used).length:Int)) (4:Int)).bind fun c=>(bA (iJ a) (c,(0:Int))))
def mh (a:ai) (b:(ao)):Option ((List Int)) :=
 ((ax b (IntKind.u64.wrap ((a.out).length:Int)) (4:Int)).bind fun c=>(((bA (iE a) (c,(0:Int)))).bind (mx a)))
def gX (b:(Option ai)):Option ((List Int)) :=
 (match b with | none=>none | some a=>((ax ({p:=[]}:ao) (IntKind.u64.wrap a.wide) (4:Int)).bind fun c=>((ax c a.cI (8:Int)).bind fun d=>((kj a.store).bind fun e=>((ef d e).bind fun f=>((ir a.fw).bind fun g=>((ef f g).bind fun h=>((gy a.last).bind fun i=>((ef h i).bind fun j=>((ig a.book).bind fun k=>((ef j k).bind fun l=>((ax l (IntKind.u64.wrap ((a.open_).length:Int)) (4:Int)).bind fun m=>(((bA (iG a) (m,(0:Int)))).bind (mh a))))))))))))))
def iX (a:(List Int)):Option (ag) :=
 (some ({p:=a,bad:=false}:ag))
def gT (b:Int) (d:ag) (s:(Int×Int)):Option ((Int×Int) ⊕ (Int)) :=
 match s with | (a,c)=>(bif (decide (a<(if (8:Int)<b then (8:Int) else b))) then ((dC d.p a).bind fun e=>(gd (decide ((0:Int)≤(IntKind.i64.wrap ((8:Int)*a)))) (some (Sum.inl ((IntKind.i64.wrap (a+(1:Int))),(bOr .u64 c (Ho .u64 (IntKind.u64.wrap e) (IntKind.i64.wrap ((8:Int)*a))))))))) else (bG (some c)))
def mM (a:ag) (b:Int) (c:(Int)):Option (Int×ag) :=
 (gd (fits a.p b (((a.p).length:Nat):Int)) (some (c,({p:=(lL a.p b (((a.p).length:Nat):Int)),bad:=a.bad}:ag))))
def aE (a:ag) (b:Int):Option (Int×ag) :=
 (bif a.bad then none else (bif (decide (b<(0:Int))) then none else (bif (decide (((a.p).length:Int)<b)) then none else (((bA (gT b a) ((0:Int),(0:Int)))).bind (mM a b)))))
def du (c:ag) (b:Int):Option ((List Int)×ag) :=
 ((aE c (4:Int)).bind fun a=>(bif a.2.bad then none else (bif (decide (b<(0:Int))) then none else (bif (decide (a.1>(IntKind.u64.wrap b))) then none else (bif (decide (a.1>(IntKind.u64.wrap ((a.2.p).length:Int)))) then none else (gd (fits a.2.p (0:Int) a.1) (gd (room ([]:List Int) (lL a.2.p (0:Int) a.1)) (gd (fits a.2.p a.1 (((a.2.p).length:Nat):Int)) (some ((lL a.2.p (0:Int) a.1),({p:=(lL a.2.p a.1 (((a.2.p).length:Nat):Int)),bad:=a.2.bad}:ag)))))))))))
def eS (a:ag):Option (Bool) :=
 (some a.bad)
def eB (a:ag):Option (Int) :=
 ((eS a).bind fun b=>(bif b then (some (0:Int)) else (some ((a.p).length:Int))))
def cd (c:ag) (b:Int):Option (Int×ag) :=
 ((aE c (4:Int)).bind fun a=>(bif (decide (b<(0:Int))) then none else (bif (decide (a.1>(IntKind.u64.wrap b))) then none else (some ((IntKind.i64.wrap a.1),a.2)))))
def ff (b:ag):Option (Bool×ag) :=
 ((aE b (1:Int)).bind fun a=>(bif (decide (a.1>(1:Int))) then none else (some ((a.1==(1:Int)),a.2))))
def eK (a:ag):Option (Bool) :=
 ((eS a).bind fun b=>(bif (!b) then (some (((a.p).length:Int)==(0:Int))) else none))
def kB (c:bW) (d:Int) (a:(Int)):Option ((Int) ⊕ ((Int) ⊕ (Bool))) :=
 (bif (decide (a<((c.l).length:Int))) then ((dC c.l a).bind fun b=>(bif (decide (a>(0:Int))) then ((dC c.l (IntKind.i64.wrap (a - (1:Int)))).bind fun e=>((se e b.ae b.Index).bind fun f=>(bif (!f) then none else (bif b.Del then (bif (decide (((b.Val).length:Int)>(0:Int))) then none else (some (Sum.inl (IntKind.i64.wrap (a+(1:Int)))))) else (some (Sum.inl (IntKind.i64.wrap (a+(1:Int))))))))) else (bif b.Del then (bif (decide (((b.Val).length:Int)>(0:Int))) then none else (some (Sum.inl (IntKind.i64.wrap (a+(1:Int)))))) else (some (Sum.inl (IntKind.i64.wrap (a+(1:Int)))))))) else (bG (some (Sum.inl (IntKind.i64.wrap (d+(1:Int)))))))
def kF (a:bW) (b:Int) (c:Unit):Option ((Int) ⊕ (Bool)) :=
 (bA (kB a b) (0:Int))
def kI (c:cn) (b:(Int)):Option ((Int) ⊕ (Bool)) :=
 (bif (decide (b<((c.rows).length:Int))) then ((dC c.rows b).bind fun a=>(ia (bif (decide (b>(0:Int))) then ((dC c.rows (IntKind.i64.wrap (b - (1:Int)))).bind fun d=>(bif (decide (d.eW≥a.eW)) then none else (bif (((a.l).length:Int)==(0:Int)) then none else ((eP a.eW).bind fun e=>((dS e).bind fun f=>(bif (f !=a.eW) then none else (some (Sum.inl ())))))))) else (bif (((a.l).length:Int)==(0:Int)) then none else ((eP a.eW).bind fun g=>((dS g).bind fun h=>(bif (h !=a.eW) then none else (some (Sum.inl ()))))))) (kF a b))) else (bG (some true)))
def nj (a:(Option cn)):Option (Bool) :=
 (match a with | none=>none | some b=>(bA (kI b) (0:Int)))
def nc (h:(Int×ag)) (s:((List bf)×ag×Int)):Option (((List bf)×ag×Int) ⊕ (ag×(List bf))) :=
 match s with | (a,f,g)=>(bif (decide (g<h.1)) then ((aE f (8:Int)).bind fun b=>((aE b.2 (8:Int)).bind fun c=>((ff c.2).bind fun d=>((du d.2 (256:Int)).bind fun e=>(gd (room a ([({ae:=b.1,Index:=c.1,Del:=d.1,Val:=e.1}:bf)])) (some (Sum.inl ((a++([({ae:=b.1,Index:=c.1,Del:=d.1,Val:=e.1}:bf)])),e.2,(IntKind.i64.wrap (g+(1:Int))))))))))) else (bG (some (f,a))))
def rE (a:cn) (b:(Int×ag)) (d:Int) (s:(ag×(List bf))):Option ((ag×cn×Int) ⊕ (ag×cn)) :=
 match s with | (e,c)=>(gd (room a.rows ([({eW:=b.1,l:=c}:bW)])) (some (Sum.inl (e,({rows:=(a.rows++([({eW:=b.1,l:=c}:bW)]))}:cn),(IntKind.i64.wrap (d+(1:Int)))))))
def mQ (f:(Int×ag)) (s:(ag×cn×Int)):Option ((ag×cn×Int) ⊕ (ag×cn)) :=
 match s with | (b,c,d)=>(bif (decide (d<f.1)) then ((aE b (8:Int)).bind fun a=>((eB a.2).bind fun g=>((cd a.2 g).bind fun e=>(((bA (nc e) ([],e.2,(0:Int)))).bind (rE c a d))))) else (bG (some (b,c))))
def rC (s:(ag×cn)):Option (cn×Int) :=
 match s with | (b,a)=>((eK b).bind fun c=>(bif (!c) then none else ((nj (some a)).bind fun d=>(bif (!d) then none else (some (a,(0:Int)))))))
def sZ (c:(List Int)):Option (cn×Int) :=
 ((iX c).bind fun a=>(uY.bind fun d=>((eB a).bind fun e=>((cd a e).bind fun b=>(((bA (mQ b) (b.2,d,(0:Int)))).bind (rC))))))
def kR (f:(Int×ag)) (s:((List Nat)×ag×Int)):Option (((List Nat)×ag×Int) ⊕ (ag×(List Nat))) :=
 match s with | (a,b,c)=>(bif (decide (c<f.1)) then ((aE b (8:Int)).bind fun d=>((eP d.1).bind fun e=>(gd (room a ([e])) (some (Sum.inl ((a++([e])),d.2,(IntKind.i64.wrap (c+(1:Int))))))))) else (bG (some (b,a))))
def kP (h:(Int×ag)) (s:((List (Nat×Nat))×ag×Int)):Option (((List (Nat×Nat))×ag×Int) ⊕ (ag×(List (Nat×Nat)))) :=
 match s with | (a,b,c)=>(bif (decide (c<h.1)) then ((aE b (8:Int)).bind fun d=>((eP d.1).bind fun e=>((aE d.2 (8:Int)).bind fun f=>((eP f.1).bind fun g=>(gd (room a ([(e,g)])) (some (Sum.inl ((a++([(e,g)])),f.2,(IntKind.i64.wrap (c+(1:Int))))))))))) else (bG (some (b,a))))
def kM (f:(Int×ag)) (s:((List Nat)×ag×Int)):Option (((List Nat)×ag×Int) ⊕ (ag×(List Nat))) :=
 match s with | (a,b,c)=>(bif (decide (c<f.1)) then ((aE b (8:Int)).bind fun d=>((eP d.1).bind fun e=>(gd (room a ([e])) (some (Sum.inl ((a++([e])),d.2,(IntKind.i64.wrap (c+(1:Int))))))))) else (bG (some (b,a))))
def uE (b c d:(Int×ag)) (e:(List Nat)) (f:(List (Nat×Nat))) (s:(ag×(List Nat))):Option (aw×ag) :=
 match s with | (g,h)=>((du g (257:Int)).bind fun a=>(some (({ID:=({ab:=b.1,Seq:=c.1}:cy),ae:=d.1,dO:=e,aX:=f,dD:=h,Data:=a.1}:aw),a.2)))
def sB (b c d:(Int×ag)) (e:(List Nat)) (s:(ag×(List (Nat×Nat)))):Option (aw×ag) :=
 match s with | (f,g)=>((((cd f (32:Int)).bind fun a=>(bA (kM a) ([],a.2,(0:Int))))).bind (uE b c d e g))
def sA (b c d:(Int×ag)) (s:(ag×(List Nat))):Option (aw×ag) :=
 match s with | (e,f)=>((((cd e (32:Int)).bind fun a=>(bA (kP a) ([],a.2,(0:Int))))).bind (sB b c d f))
def oO (e:ag):Option (aw×ag) :=
 ((aE e (8:Int)).bind fun a=>((aE a.2 (8:Int)).bind fun b=>((aE b.2 (8:Int)).bind fun c=>((((cd c.2 (32:Int)).bind fun d=>(bA (kR d) ([],d.2,(0:Int))))).bind (sA a b c)))))
def nT (b:bN) (a:(aw×ag)) (c:Int) (d:Unit):Option ((ag×bN×Int) ⊕ ((ag×bN) ⊕ (bN×Int))) :=
 (gd (room b.l ([a.1])) (some (Sum.inl (a.2,({l:=(b.l++([a.1]))}:bN),(IntKind.i64.wrap (c+(1:Int)))))))
def lM (e:(Int×ag)) (s:(ag×bN×Int)):Option ((ag×bN×Int) ⊕ ((ag×bN) ⊕ (bN×Int))) :=
 match s with | (c,b,a)=>(bif (decide (a<e.1)) then ((oO c).bind fun d=>(ia (bif (decide (a>(0:Int))) then ((dC b.l (IntKind.i64.wrap (a - (1:Int)))).bind fun f=>((mE f d.1.ID).bind fun g=>(bif (decide (g≥(0:Int))) then none else (some (Sum.inl ()))))) else (some (Sum.inl ()))) (nT b d a))) else (bG (some (Sum.inl (c,b)))))
def qs (b:(List Int)) (s:(ag×bN)):Option (bN×Int) :=
 match s with | (c,a)=>((eK c).bind fun d=>(bif (!d) then none else ((ir (some a)).bind fun e=>((dT e b).bind fun f=>(bif (!f) then none else (some (a,(0:Int))))))))
def rr (a:(List Int)):Option (bN×Int) :=
 ((iX a).bind fun b=>(tL.bind fun d=>(ia ((eB b).bind fun e=>((cd b e).bind fun c=>(bA (lM c) (c.2,d,(0:Int))))) (qs a))))
def fA (f:(Int×ag)) (s:((List cC)×ag×Int)):Option (((List cC)×ag×Int) ⊕ (ag×(List cC))) :=
 match s with | (a,d,e)=>(bif (decide (e<f.1)) then ((ff d).bind fun b=>((du b.2 (256:Int)).bind fun c=>(gd (room a ([({Has:=b.1,Val:=c.1}:cC)])) (some (Sum.inl ((a++([({Has:=b.1,Val:=c.1}:cC)])),c.2,(IntKind.i64.wrap (e+(1:Int))))))))) else (bG (some (d,a))))
def fC (g:(Int×ag)) (s:(ag×Int×(List bP))):Option ((ag×Int×(List bP)) ⊕ (ag×(List bP))) :=
 match s with | (c,d,a)=>(bif (decide (d<g.1)) then ((aE c (8:Int)).bind fun e=>((eP e.1).bind fun f=>((du e.2 (256:Int)).bind fun b=>(gd (room a ([({At:=f,Val:=b.1}:bP)])) (some (Sum.inl (b.2,(IntKind.i64.wrap (d+(1:Int))),(a++([({At:=f,Val:=b.1}:bP)]))))))))) else (bG (some (c,a))))
def pg (a:(List (List bP))) (c:Int) (s:(ag×(List bP))):Option (((List (List bP))×ag×Int) ⊕ (bB×ag)) :=
 match s with | (d,b)=>(gd (room a ([b])) (some (Sum.inl ((a++([b])),d,(IntKind.i64.wrap (c+(1:Int)))))))
def fD (e f g h:(Int×ag)) (i:(List cC)) (s:((List (List bP))×ag×Int)):Option (((List (List bP))×ag×Int) ⊕ (bB×ag)) :=
 match s with | (a,b,c)=>(bif (decide (c<e.1)) then ((((cd b (64:Int)).bind fun d=>(bA (fC d) (d.2,(0:Int),[])))).bind (pg a c)) else (bG (some (({E:=(IntKind.i64.wrap f.1),ae:=g.1,Index:=h.1,dU:=i,aX:=a}:bB),b))))
def oY (b c d:(Int×ag)) (s:(ag×(List cC))):Option (bB×ag) :=
 match s with | (e,f)=>((cd e (32:Int)).bind fun a=>(bA (fD a b c d f) ([],a.2,(0:Int))))
def gW (e:ag):Option (bB×ag) :=
 ((aE e (1:Int)).bind fun a=>((aE a.2 (8:Int)).bind fun b=>((aE b.2 (8:Int)).bind fun c=>((((cd c.2 (32:Int)).bind fun d=>(bA (fA d) ([],d.2,(0:Int))))).bind (oY a b c)))))
def mr (b:bE) (c d:(Int×ag)) (a:(bB×ag)) (e:Int) (f:Unit):Option ((ag×bE×Int) ⊕ ((ag×bE) ⊕ (bE×Int))) :=
 (gd (room b.l ([({cV:=c.1,seq:=d.1,r:=a.1}:aZ)])) (some (Sum.inl (a.2,({l:=(b.l++([({cV:=c.1,seq:=d.1,r:=a.1}:aZ)]))}:bE),(IntKind.i64.wrap (e+(1:Int)))))))
def jY (f:(Int×ag)) (s:(ag×bE×Int)):Option ((ag×bE×Int) ⊕ ((ag×bE) ⊕ (bE×Int))) :=
 match s with | (e,b,a)=>(bif (decide (a<f.1)) then ((aE e (8:Int)).bind fun c=>((aE c.2 (8:Int)).bind fun d=>((gW d.2).bind fun g=>(ia (bif (d.1==(0:Int)) then none else (bif (decide (a>(0:Int))) then ((dC b.l (IntKind.i64.wrap (a - (1:Int)))).bind fun h=>(bif (decide (h.cV≥c.1)) then none else (some (Sum.inl ())))) else (some (Sum.inl ())))) (mr b c d g a))))) else (bG (some (Sum.inl (e,b)))))
def oy (b:(List Int)) (s:(ag×bE)):Option (bE×Int) :=
 match s with | (c,a)=>((eK c).bind fun d=>(bif (!d) then none else ((gy (some a)).bind fun e=>((dT e b).bind fun f=>(bif (!f) then none else (some (a,(0:Int))))))))
def oX (a:(List Int)):Option (bE×Int) :=
 ((iX a).bind fun b=>(qF.bind fun d=>(ia ((eB b).bind fun e=>((cd b e).bind fun c=>(bA (jY c) (c.2,d,(0:Int))))) (oy a))))
def kW (p:(Int×ag)) (s:(ag×cg×Int)):Option ((ag×cg×Int) ⊕ (ag×cg)) :=
 match s with | (i,a,j)=>(bif (decide (j<p.1)) then ((aE i (8:Int)).bind fun b=>((aE b.2 (1:Int)).bind fun c=>((aE c.2 (1:Int)).bind fun d=>((aE d.2 (8:Int)).bind fun k=>((eP k.1).bind fun m=>((aE k.2 (8:Int)).bind fun n=>((eP n.1).bind fun o=>((aE n.2 (8:Int)).bind fun e=>((aE e.2 (4:Int)).bind fun f=>((aE f.2 (8:Int)).bind fun g=>((aE g.2 (8:Int)).bind fun h=>(gd (room a.l ([({r:=({ID:=b.1,dn:=(IntKind.i64.wrap c.1),To:=(IntKind.i64.wrap d.1),Lo:=m,Hi:=o,Authority:=e.1,cx:=(IntKind.i64.wrap f.1)}:dV),from_:=g.1,to_:=h.1}:dj)])) (some (Sum.inl (h.2,({l:=(a.l++([({r:=({ID:=b.1,dn:=(IntKind.i64.wrap c.1),To:=(IntKind.i64.wrap d.1),Lo:=m,Hi:=o,Authority:=e.1,cx:=(IntKind.i64.wrap f.1)}:dV),from_:=g.1,to_:=h.1}:dj)]))}:cg),(IntKind.i64.wrap (j+(1:Int)))))))))))))))))) else (bG (some (i,a))))
def pA (b:(List Int)) (s:(ag×cg)):Option (cg×Int) :=
 match s with | (c,a)=>((eK c).bind fun d=>(bif (!d) then none else ((ig (some a)).bind fun e=>((dT e b).bind fun f=>(bif (!f) then none else (some (a,(0:Int))))))))
def qn (a:(List Int)):Option (cg×Int) :=
 ((iX a).bind fun b=>(sn.bind fun d=>((((eB b).bind fun e=>((cd b e).bind fun c=>(bA (kW c) (c.2,d,(0:Int)))))).bind (pA a))))
def fT (h:(Int×ag)) (s:(ag×(List bK)×Int)):Option ((ag×(List bK)×Int) ⊕ ((List bK)×ag)) :=
 match s with | (d,a,e)=>(bif (decide (e<h.1)) then ((aE d (8:Int)).bind fun f=>((eP f.1).bind fun g=>((ff f.2).bind fun b=>((du b.2 (256:Int)).bind fun c=>(gd (room a ([({At:=g,Del:=b.1,Val:=c.1}:bK)])) (some (Sum.inl (c.2,(a++([({At:=g,Del:=b.1,Val:=c.1}:bK)])),(IntKind.i64.wrap (e+(1:Int))))))))))) else (bG (some (a,d))))
def iu (b:ag):Option ((List bK)×ag) :=
 ((cd b (32:Int)).bind fun a=>(bA (fT a) (a.2,[],(0:Int))))
def fY (f:(Int×ag)) (s:((List dM)×ag×Int)):Option (((List dM)×ag×Int) ⊕ (ag×(List dM))) :=
 match s with | (a,d,e)=>(bif (decide (e<f.1)) then ((aE d (1:Int)).bind fun b=>((iu b.2).bind fun c=>(gd (room a ([({oA:=(IntKind.i64.wrap b.1),cw:=c.1}:dM)])) (some (Sum.inl ((a++([({oA:=(IntKind.i64.wrap b.1),cw:=c.1}:dM)])),c.2,(IntKind.i64.wrap (e+(1:Int))))))))) else (bG (some (d,a))))
def oB (b:(Int×ag)) (c d:Int) (e f:(Int×ag)) (s:(ag×(List dM))):Option ((ag×aG) ⊕ (aG×Int)) :=
 match s with | (g,h)=>((gW g).bind fun a=>(some (Sum.inl (a.2,({Kind:=(IntKind.u8.wrap b.1),ID:=({ab:=c,Seq:=d}:cy),ae:=e.1,Index:=(0:Int),E:=(0:Int),br:=dX,cw:=[],R:=a.1,bY:=f.1,dN:=h,ap:=dY,On:=false}:aG)))))
def oz (b:(List Int)) (s:(ag×aG)):Option (aG×Int) :=
 match s with | (c,a)=>((eK c).bind fun d=>(bif (!d) then none else ((nf a).bind fun e=>((dT e b).bind fun f=>(bif (!f) then none else (some (a,(0:Int))))))))
def pj (b:(List Int)):Option (aG×Int) :=
 ((iX b).bind fun u=>((aE u (1:Int)).bind fun a=>(ia (bif ((IntKind.u8.wrap a.1)==(1:Int)) then ((aE a.2 (8:Int)).bind fun c=>(some (Sum.inl (c.2,({Kind:=(IntKind.u8.wrap a.1),ID:=({ab:=(0:Int),Seq:=(0:Int)}:cy),ae:=c.1,Index:=(0:Int),E:=(0:Int),br:=dX,cw:=[],R:=ct,bY:=(0:Int),dN:=[],ap:=dY,On:=false}:aG))))) else (bif ((IntKind.u8.wrap a.1)==(2:Int)) then ((oO a.2).bind fun d=>(some (Sum.inl (d.2,({Kind:=(IntKind.u8.wrap a.1),ID:=({ab:=(0:Int),Seq:=(0:Int)}:cy),ae:=(0:Int),Index:=(0:Int),E:=(0:Int),br:=d.1,cw:=[],R:=ct,bY:=(0:Int),dN:=[],ap:=dY,On:=false}:aG))))) else (bif ((IntKind.u8.wrap a.1)==(3:Int)) then (((aE a.2 (8:Int)).bind fun e=>((aE e.2 (8:Int)).bind fun f=>(some (f.2,e.1,f.1)))).bind fun (v,x,y)=>((aE v (1:Int)).bind fun g=>((aE g.2 (8:Int)).bind fun h=>((aE h.2 (8:Int)).bind fun i=>((iu i.2).bind fun j=>(some (Sum.inl (j.2,({Kind:=(IntKind.u8.wrap a.1),ID:=({ab:=x,Seq:=y}:cy),ae:=h.1,Index:=i.1,E:=(IntKind.i64.wrap g.1),br:=dX,cw:=j.1,R:=ct,bY:=(0:Int),dN:=[],ap:=dY,On:=false}:aG))))))))) else (bif ((IntKind.u8.wrap a.1)==(4:Int)) then (((aE a.2 (8:Int)).bind fun k=>((aE k.2 (8:Int)).bind fun l=>(some (l.2,k.1,l.1)))).bind fun (A,B,C)=>((aE A (8:Int)).bind fun m=>((aE m.2 (2:Int)).bind fun n=>((((cd n.2 (8:Int)).bind fun o=>(bA (fY o) ([],o.2,(0:Int))))).bind (oB a B C m n))))) else (bif ((IntKind.u8.wrap a.1)==(5:Int)) then (((aE a.2 (8:Int)).bind fun p=>((aE p.2 (8:Int)).bind fun q=>(some (q.2,p.1,q.1)))).bind fun (D,F,G)=>(some (Sum.inl (D,({Kind:=(IntKind.u8.wrap a.1),ID:=({ab:=F,Seq:=G}:cy),ae:=(0:Int),Index:=(0:Int),E:=(0:Int),br:=dX,cw:=[],R:=ct,bY:=(0:Int),dN:=[],ap:=dY,On:=false}:aG))))) else (bif ((IntKind.u8.wrap a.1)==(6:Int)) then none else (bif ((IntKind.u8.wrap a.1)==(7:Int)) then (((aE a.2 (8:Int)).bind fun s=>((aE s.2 (8:Int)).bind fun t=>(some (t.2,s.1,t.1)))).bind fun (H,J,K)=>((aE H (8:Int)).bind fun L=>none)) else none))))))) (oz b))))
def ni (g:(Int×ag)) (s:(ag×ai×Int)):Option ((ag×ai×Int) ⊕ ((ag×ai) ⊕ (ai×Int))) :=
 match s with | (d,b,e)=>(bif (decide (e<g.1)) then ((aE d (1:Int)).bind fun c=>((du c.2 (1048576:Int)).bind fun f=>((pj f.1).bind fun a=>(bif (a.2 !=(0:Int)) then none else (bif (a.1.Kind !=(4:Int)) then none else (gd (room b.open_ ([({a.1 with E:=(IntKind.i64.wrap c.1),Index:=a.1.R.Index}:bH)])) (some (Sum.inl (f.2,({b with open_:=(b.open_++([({a.1 with E:=(IntKind.i64.wrap c.1),Index:=a.1.R.Index}:bH)]))}:ai),(IntKind.i64.wrap (e+(1:Int)))))))))))) else (bG (some (Sum.inl (d,b)))))
def mY (l:(Int×ag)) (s:(ag×ai×Int)):Option ((ag×ai×Int) ⊕ (ag×ai)) :=
 match s with | (h,a,i)=>(bif (decide (i<l.1)) then ((aE h (1:Int)).bind fun b=>((aE b.2 (8:Int)).bind fun c=>((aE c.2 (8:Int)).bind fun d=>((aE d.2 (8:Int)).bind fun e=>((aE e.2 (8:Int)).bind fun j=>((eP j.1).bind fun k=>((ff j.2).bind fun f=>((du f.2 (256:Int)).bind fun g=>(gd (room a.out ([({To:=(IntKind.i64.wrap b.1),N:=c.1,ap:=d.1,ae:=e.1,W:=({At:=k,Del:=f.1,Val:=g.1}:bK)}:dw)])) (some (Sum.inl (g.2,({a with out:=(a.out++([({To:=(IntKind.i64.wrap b.1),N:=c.1,ap:=d.1,ae:=e.1,W:=({At:=k,Del:=f.1,Val:=g.1}:bK)}:dw)]))}:ai),(IntKind.i64.wrap (i+(1:Int))))))))))))))) else (bG (some (h,a))))
def mU (g:(Int×ag)) (s:(ag×ai×Int)):Option ((ag×ai×Int) ⊕ (ag×ai)) :=
 match s with | (e,a,f)=>(bif (decide (f<g.1)) then ((aE e (8:Int)).bind fun b=>((aE b.2 (8:Int)).bind fun c=>((aE c.2 (4:Int)).bind fun d=>(gd (room a.used ([({jW:=b.1,cI:=c.1,n:=(IntKind.i64.wrap d.1)}:da)])) (some (Sum.inl (d.2,({a with used:=(a.used++([({jW:=b.1,cI:=c.1,n:=(IntKind.i64.wrap d.1)}:da)]))}:ai),(IntKind.i64.wrap (f+(1:Int)))))))))) else (bG (some (e,a))))
def qW (b:(List Int)) (s:(ag×ai)):Option (ai×Int) :=
 match s with | (c,a)=>((eK c).bind fun d=>(bif (!d) then none else ((gX (some a)).bind fun e=>((dT e b).bind fun f=>(bif (!f) then none else (some (a,(0:Int))))))))
def rG (c:(List Int)) (s:(ag×ai)):Option (ai×Int) :=
 match s with | (a,d)=>((((eB a).bind fun e=>((cd a e).bind fun b=>(bA (mU b) (b.2,d,(0:Int)))))).bind (qW c))
def qU (c:(List Int)) (s:(ag×ai)):Option (ai×Int) :=
 match s with | (a,d)=>((((eB a).bind fun e=>((cd a e).bind fun b=>(bA (mY b) (b.2,d,(0:Int)))))).bind (rG c))
def sY (a:(List Int)):Option (ai×Int) :=
 ((iX a).bind fun m=>((aE m (4:Int)).bind fun c=>((aE c.2 (8:Int)).bind fun d=>((du d.2 ((a).length:Int)).bind fun e=>((sZ e.1).bind fun f=>((du e.2 ((a).length:Int)).bind fun g=>((rr g.1).bind fun h=>((du g.2 ((a).length:Int)).bind fun i=>((oX i.1).bind fun j=>((du i.2 ((a).length:Int)).bind fun b=>((qn b.1).bind fun k=>(bif (!((f.2==(0:Int))&&(h.2==(0:Int))&&(j.2==(0:Int))&&(k.2==(0:Int)))) then none else (ia ((eB b.2).bind fun n=>((cd b.2 n).bind fun l=>(bA (ni l) (l.2,({wide:=(IntKind.i64.wrap c.1),cI:=d.1,store:=(some f.1),fw:=(some h.1),last:=(some j.1),book:=(some k.1),open_:=[],out:=[],used:=[]}:ai),(0:Int))))) (qU a))))))))))))))
def aY (a:aB) (b:Int):Option (Int×aB) :=
 (bif (decide (a.I≥((a.L).length:Int))) then (some ((0:Int),a)) else ((dC a.L (IntKind.i64.wrap ((IntKind.i64.wrap (a.I+(1:Int))) - (1:Int)))).bind fun c=>(gd (!(b==(0:Int))) (some ((Int.tmod (IntKind.i64.wrap c) b),({L:=a.L,I:=(IntKind.i64.wrap (a.I+(1:Int)))}:aB))))))
def fO (c:aB):Option (cy×aB) :=
 ((aY c (4:Int)).bind fun a=>((aY a.2 (4:Int)).bind fun b=>(some (({ab:=(IntKind.u64.wrap a.1),Seq:=(IntKind.u64.wrap (IntKind.i64.wrap ((1:Int)+b.1)))}:cy),b.2))))
def um (a:Int):Option (Nat) :=
 ((dC ([(0:Nat),(4607182418800017408:Nat),(13830554455654793216:Nat),(4612811918334230528:Nat),(9094988921128908188:Nat),(18318360957983683996:Nat),(4602678819172646912:Nat),(4613937818241073152:Nat)]) (Int.tmod a (8:Int))).bind fun b=>(some b))
def dK (b:aB):Option (Nat×aB) :=
 ((aY b (8:Int)).bind fun a=>((um (IntKind.u8.wrap a.1)).bind fun c=>(some (c,a.2))))
def iU (e:(Int×aB)) (s:(aB×(List Int)×Int)):Option ((aB×(List Int)×Int) ⊕ ((List Int)×aB)) :=
 match s with | (c,a,d)=>(bif (decide (d<e.1)) then ((aY c (26:Int)).bind fun b=>(gd (room a ([(IntKind.u8.wrap (IntKind.i64.wrap ((97:Int)+b.1)))])) (some (Sum.inl (b.2,(a++([(IntKind.u8.wrap (IntKind.i64.wrap ((97:Int)+b.1)))])),(IntKind.i64.wrap (d+(1:Int)))))))) else (bG (some (a,c))))
def gD (b:aB):Option ((List Int)×aB) :=
 ((aY b (4:Int)).bind fun a=>(bA (iU a) (a.2,[],(0:Int))))
def ik (e:(Int×aB)) (s:((List Nat)×aB×Int)):Option (((List Nat)×aB×Int) ⊕ (aB×(List Nat))) :=
 match s with | (a,c,d)=>(bif (decide (d<e.1)) then ((dK c).bind fun b=>(gd (room a ([b.1])) (some (Sum.inl ((a++([b.1])),b.2,(IntKind.i64.wrap (d+(1:Int)))))))) else (bG (some (c,a))))
def iz (f:(Int×aB)) (s:((List (Nat×Nat))×aB×Int)):Option (((List (Nat×Nat))×aB×Int) ⊕ (aB×(List (Nat×Nat)))) :=
 match s with | (a,d,e)=>(bif (decide (e<(IntKind.i64.wrap (Int.tdiv f.1 (2:Int))))) then ((dK d).bind fun b=>((dK b.2).bind fun c=>(gd (room a ([(b.1,c.1)])) (some (Sum.inl ((a++([(b.1,c.1)])),c.2,(IntKind.i64.wrap (e+(1:Int))))))))) else (bG (some (d,a))))
def iw (e:(Int×aB)) (s:((List Nat)×aB×Int)):Option (((List Nat)×aB×Int) ⊕ (aB×(List Nat))) :=
 match s with | (a,c,d)=>(bif (decide (d<e.1)) then ((dK c).bind fun b=>(gd (room a ([b.1])) (some (Sum.inl ((a++([b.1])),b.2,(IntKind.i64.wrap (d+(1:Int)))))))) else (bG (some (c,a))))
def qu (b:(cy×aB)) (c:(Int×aB)) (d:(List Nat)) (e:(List (Nat×Nat))) (s:(aB×(List Nat))):Option (aw×aB) :=
 match s with | (h,f)=>((aY h (4:Int)).bind fun a=>(bif (a.1==(0:Int)) then ((gD a.2).bind fun g=>(some (({ID:=b.1,ae:=(IntKind.u64.wrap (IntKind.i64.wrap ((1:Int)+c.1))),dO:=d,aX:=e,dD:=f,Data:=g.1}:aw),g.2))) else (some (({ID:=b.1,ae:=(IntKind.u64.wrap (IntKind.i64.wrap ((1:Int)+c.1))),dO:=d,aX:=e,dD:=f,Data:=[]}:aw),a.2))))
def qA (b:(cy×aB)) (c:(Int×aB)) (d:(List Nat)) (s:(aB×(List (Nat×Nat)))):Option (aw×aB) :=
 match s with | (e,f)=>((aY e (3:Int)).bind fun a=>(((bA (iw a) ([],a.2,(0:Int)))).bind (qu b c d f)))
def qv (b:(cy×aB)) (c:(Int×aB)) (s:(aB×(List Nat))):Option (aw×aB) :=
 match s with | (d,e)=>((aY d (3:Int)).bind fun a=>(((bA (iz a) ([],a.2,(0:Int)))).bind (qA b c e)))
def kq (d:aB):Option (aw×aB) :=
 ((fO d).bind fun a=>((aY a.2 (4:Int)).bind fun b=>((aY b.2 (3:Int)).bind fun c=>(((bA (ik c) ([],c.2,(0:Int)))).bind (qv a b)))))
def re (a:(List bK)) (b:(Nat×aB)) (c:(Int×aB)) (e:Int) (s:(aB×(List Int))):Option ((aB×(List bK)×Int) ⊕ ((List bK)×aB)) :=
 match s with | (f,d)=>(gd (room a ([({At:=b.1,Del:=(c.1==(0:Int)),Val:=d}:bK)])) (some (Sum.inl (f,(a++([({At:=b.1,Del:=(c.1==(0:Int)),Val:=d}:bK)])),(IntKind.i64.wrap (e+(1:Int)))))))
def iZ (g:(Int×aB)) (s:(aB×(List bK)×Int)):Option ((aB×(List bK)×Int) ⊕ ((List bK)×aB)) :=
 match s with | (b,c,d)=>(bif (decide (d<g.1)) then ((dK b).bind fun e=>((aY e.2 (4:Int)).bind fun a=>(((bif (!(a.1==(0:Int))) then ((gD a.2).bind fun f=>(some (f.2,f.1))) else (some (a.2,[])))).bind (re c e a d)))) else (bG (some (c,b))))
def hY (b:aB):Option ((List bK)×aB) :=
 ((aY b (3:Int)).bind fun a=>(bA (iZ a) (a.2,[],(0:Int))))
def jE (f:(Int×aB)) (s:((List cC)×aB×Int)):Option (((List cC)×aB×Int) ⊕ (aB×(List cC))) :=
 match s with | (a,d,e)=>(bif (decide (e<f.1)) then ((aY d (2:Int)).bind fun b=>((gD b.2).bind fun c=>(gd (room a ([({Has:=(b.1==(0:Int)),Val:=c.1}:cC)])) (some (Sum.inl ((a++([({Has:=(b.1==(0:Int)),Val:=c.1}:cC)])),c.2,(IntKind.i64.wrap (e+(1:Int))))))))) else (bG (some (d,a))))
def jx (f:(Int×aB)) (s:(aB×Int×(List bP))):Option ((aB×Int×(List bP)) ⊕ (aB×(List bP))) :=
 match s with | (d,e,a)=>(bif (decide (e<f.1)) then ((dK d).bind fun b=>((gD b.2).bind fun c=>(gd (room a ([({At:=b.1,Val:=c.1}:bP)])) (some (Sum.inl (c.2,(IntKind.i64.wrap (e+(1:Int))),(a++([({At:=b.1,Val:=c.1}:bP)])))))))) else (bG (some (d,a))))
def rY (a:(List (List bP))) (c:Int) (s:(aB×(List bP))):Option (((List (List bP))×aB×Int) ⊕ (bB×aB)) :=
 match s with | (d,b)=>(gd (room a ([b])) (some (Sum.inl ((a++([b])),d,(IntKind.i64.wrap (c+(1:Int)))))))
def jC (e:(Int×aB)) (f g h:Int) (i:(List cC)) (s:((List (List bP))×aB×Int)):Option (((List (List bP))×aB×Int) ⊕ (bB×aB)) :=
 match s with | (a,b,c)=>(bif (decide (c<(IntKind.i64.wrap (Int.tdiv e.1 (2:Int))))) then ((aY b (3:Int)).bind fun d=>(((bA (jx d) (d.2,(0:Int),[]))).bind (rY a c))) else (bG (some (({E:=f,ae:=g,Index:=h,dU:=i,aX:=a}:bB),b))))
def rX (b c d:Int) (s:(aB×(List cC))):Option (bB×aB) :=
 match s with | (e,f)=>((aY e (3:Int)).bind fun a=>(bA (jC a b c d f) ([],a.2,(0:Int))))
def px (s:(aB×Int×Int×Int)):Option (bB×aB) :=
 match s with | (b,c,d,e)=>((aY b (3:Int)).bind fun a=>(((bA (jE a) ([],a.2,(0:Int)))).bind (rX c d e)))
def jL (d:aB):Option (bB×aB) :=
 ((((aY d (6:Int)).bind fun a=>((dC ([(0:Int),(0:Int),(0:Int),(8:Int),(9:Int),(3:Int)]) a.1).bind fun e=>((aY a.2 (4:Int)).bind fun b=>((aY b.2 (9:Int)).bind fun c=>(some (c.2,e,(IntKind.u64.wrap b.1),(IntKind.u64.wrap c.1)))))))).bind (px))
def nI (h:aB):Option (dV×aB) :=
 ((aY h (3:Int)).bind fun a=>((aY a.2 (4:Int)).bind fun b=>((aY b.2 (4:Int)).bind fun c=>((dK c.2).bind fun d=>((dK d.2).bind fun e=>((aY e.2 (2:Int)).bind fun f=>((aY f.2 (3:Int)).bind fun g=>(some (({ID:=(IntKind.u64.wrap a.1),dn:=b.1,To:=c.1,Lo:=d.1,Hi:=e.1,Authority:=(IntKind.u64.wrap f.1),cx:=g.1}:dV),g.2)))))))))
def fh (e:(Int×aB)) (s:((List dM)×aB×Int)):Option (((List dM)×aB×Int) ⊕ (aB×(List dM))) :=
 match s with | (b,d,a)=>(bif (decide (a<e.1)) then ((hY d).bind fun c=>(gd (room b ([({oA:=a,cw:=c.1}:dM)])) (some (Sum.inl ((b++([({oA:=a,cw:=c.1}:dM)])),c.2,(IntKind.i64.wrap (a+(1:Int)))))))) else (bG (some (d,b))))
def qt (b:(Int×aB)) (c:Int) (d:(cy×aB)) (e f:(Int×aB)) (s:(aB×(List dM))):Option (aG×aB) :=
 match s with | (g,h)=>((jL g).bind fun a=>(some (({Kind:=(IntKind.u8.wrap (IntKind.i64.wrap ((1:Int)+b.1))),ID:=({ab:=c,Seq:=d.1.Seq}:cy),ae:=(IntKind.u64.wrap (IntKind.i64.wrap ((1:Int)+e.1))),Index:=(0:Int),E:=(0:Int),br:=dX,cw:=[],R:=a.1,bY:=(IntKind.u64.wrap f.1),dN:=h,ap:=dY,On:=false}:aG),a.2)))
def lC (d:(Int×aB)) (e:(cy×aB)) (s:(aB×Int)):Option (aG×aB) :=
 match s with | (f,g)=>((aY f (4:Int)).bind fun a=>((aY a.2 (4:Int)).bind fun b=>((aY b.2 (3:Int)).bind fun c=>(((bA (fh c) ([],c.2,(0:Int)))).bind (qt d g e a b)))))
def gJ (t:aB):Option (aG×aB) :=
 ((aY t (7:Int)).bind fun a=>(bif ((IntKind.u8.wrap (IntKind.i64.wrap ((1:Int)+a.1)))==(1:Int)) then ((aY a.2 (4:Int)).bind fun d=>(some (({Kind:=(IntKind.u8.wrap (IntKind.i64.wrap ((1:Int)+a.1))),ID:=({ab:=(0:Int),Seq:=(0:Int)}:cy),ae:=(IntKind.u64.wrap (IntKind.i64.wrap ((1:Int)+d.1))),Index:=(0:Int),E:=(0:Int),br:=dX,cw:=[],R:=ct,bY:=(0:Int),dN:=[],ap:=dY,On:=false}:aG),d.2))) else (bif ((IntKind.u8.wrap (IntKind.i64.wrap ((1:Int)+a.1)))==(2:Int)) then ((kq a.2).bind fun e=>(some (({Kind:=(IntKind.u8.wrap (IntKind.i64.wrap ((1:Int)+a.1))),ID:=({ab:=(0:Int),Seq:=(0:Int)}:cy),ae:=(0:Int),Index:=(0:Int),E:=(0:Int),br:=e.1,cw:=[],R:=ct,bY:=(0:Int),dN:=[],ap:=dY,On:=false}:aG),e.2))) else (bif ((IntKind.u8.wrap (IntKind.i64.wrap ((1:Int)+a.1)))==(3:Int)) then ((fO a.2).bind fun f=>((aY f.2 (3:Int)).bind fun g=>((dC ([(0:Int),(0:Int),(8:Int)]) g.1).bind fun u=>((aY g.2 (4:Int)).bind fun h=>((aY h.2 (20:Int)).bind fun i=>((hY i.2).bind fun j=>(some (({Kind:=(IntKind.u8.wrap (IntKind.i64.wrap ((1:Int)+a.1))),ID:=f.1,ae:=(IntKind.u64.wrap (IntKind.i64.wrap ((1:Int)+h.1))),Index:=(IntKind.u64.wrap i.1),E:=u,br:=dX,cw:=j.1,R:=ct,bY:=(0:Int),dN:=[],ap:=dY,On:=false}:aG),j.2)))))))) else (bif ((IntKind.u8.wrap (IntKind.i64.wrap ((1:Int)+a.1)))==(4:Int)) then ((fO a.2).bind fun b=>((((aY b.2 (6:Int)).bind fun c=>(bif (c.1==(0:Int)) then (some (c.2,(IntKind.u64.wrap (b.1.ab+(9223372036854775808:Int))))) else (some (c.2,b.1.ab))))).bind (lC a b))) else (bif ((IntKind.u8.wrap (IntKind.i64.wrap ((1:Int)+a.1)))==(5:Int)) then ((fO a.2).bind fun k=>(some (({Kind:=(IntKind.u8.wrap (IntKind.i64.wrap ((1:Int)+a.1))),ID:=k.1,ae:=(0:Int),Index:=(0:Int),E:=(0:Int),br:=dX,cw:=[],R:=ct,bY:=(0:Int),dN:=[],ap:=dY,On:=false}:aG),k.2))) else (bif ((IntKind.u8.wrap (IntKind.i64.wrap ((1:Int)+a.1)))==(6:Int)) then ((nI a.2).bind fun l=>((aY l.2 (3:Int)).bind fun m=>(some (({Kind:=(IntKind.u8.wrap (IntKind.i64.wrap ((1:Int)+a.1))),ID:=({ab:=(0:Int),Seq:=(0:Int)}:cy),ae:=(0:Int),Index:=(0:Int),E:=(0:Int),br:=dX,cw:=[],R:=ct,bY:=(0:Int),dN:=[],ap:=l.1,On:=(decide (m.1>(0:Int)))}:aG),m.2)))) else (bif ((IntKind.u8.wrap (IntKind.i64.wrap ((1:Int)+a.1)))==(7:Int)) then ((fO a.2).bind fun n=>((aY n.2 (4:Int)).bind fun o=>((nI o.2).bind fun p=>((hY p.2).bind fun q=>((jL q.2).bind fun s=>(some (({Kind:=(IntKind.u8.wrap (IntKind.i64.wrap ((1:Int)+a.1))),ID:=n.1,ae:=(IntKind.u64.wrap (IntKind.i64.wrap ((1:Int)+o.1))),Index:=(0:Int),E:=(0:Int),br:=dX,cw:=q.1,R:=s.1,bY:=(0:Int),dN:=[],ap:=p.1,On:=false}:aG),s.2))))))) else (some (({Kind:=(IntKind.u8.wrap (IntKind.i64.wrap ((1:Int)+a.1))),ID:=({ab:=(0:Int),Seq:=(0:Int)}:cy),ae:=(0:Int),Index:=(0:Int),E:=(0:Int),br:=dX,cw:=[],R:=ct,bY:=(0:Int),dN:=[],ap:=dY,On:=false}:aG),a.2))))))))))
def jt (a:aq) (b:(Int)):Option ((Int) ⊕ (Bool)) :=
 (bif (decide (b<((a.H).length:Int))) then ((dC a.H b).bind fun c=>(bif (decide (c.ae≤a.ae)) then (bG (some false)) else (some (Sum.inl (IntKind.i64.wrap (b+(1:Int))))))) else (bG (some true)))
def kt (a:aq):Option (Bool) :=
 (bA (jt a) (0:Int))
def oq (c:(List aw)) (d:cy) (a:(Int)):Option ((Int) ⊕ (aw×Bool)) :=
 (bif (decide (a<((c).length:Int))) then ((dC c a).bind fun b=>(bif ((b.ID.ab==d.ab)&&(b.ID.Seq==d.Seq)) then (bG (some (b,true))) else (some (Sum.inl (IntKind.i64.wrap (a+(1:Int))))))) else (bG (some (dX,false))))
def nA (a:(List aw)) (b:cy):Option (aw×Bool) :=
 (bA (oq a b) (0:Int))
def py (a:Nat):Option (Bool) :=
 (some (decide ((IntKind.i64.wrap (Int.ofNat a))<(0:Int))))
def rH (a b:Nat) (c:Unit):Option (Bool) :=
 (some (fLt a b))
def my (a b:Nat):Option (Bool) :=
 (bif (fNe a a) then (some false) else (bif (fNe b b) then (some true) else (ia (bif (fEq a (0:Nat)) then (bif (fEq b (0:Nat)) then ((py a).bind fun c=>(bif c then ((py b).bind fun d=>(bG (some (!d)))) else (bG (some false)))) else (some (Sum.inl ()))) else (some (Sum.inl ()))) (rH a b))))
def fW (a b:Nat):Option (Bool) :=
 ((my a b).bind fun c=>(bif (!c) then ((my b a).bind fun d=>(some (!d))) else (some false)))
def iO (b c:aw) (a:(Int)):Option ((Int) ⊕ (Unit ⊕ (Bool))) :=
 (bif (decide (a<((b.dO).length:Int))) then ((dC b.dO a).bind fun d=>((dC c.dO a).bind fun e=>((fW d e).bind fun f=>(bif (!f) then (bG (bG (some false))) else (some (Sum.inl (IntKind.i64.wrap (a+(1:Int))))))))) else (bG (some (Sum.inl ()))))
def iW (b e:aw) (a:(Int)):Option ((Int) ⊕ (Unit ⊕ (Bool))) :=
 (bif (decide (a<((b.aX).length:Int))) then ((dC b.aX a).bind fun c=>((dC e.aX a).bind fun d=>((fW c.1 d.1).bind fun f=>(bif (!f) then (bG (bG (some false))) else ((fW c.2 d.2).bind fun g=>(bif (!g) then (bG (bG (some false))) else (some (Sum.inl (IntKind.i64.wrap (a+(1:Int))))))))))) else (bG (some (Sum.inl ()))))
def iV (b c:aw) (a:(Int)):Option ((Int) ⊕ (Bool)) :=
 (bif (decide (a<((b.dD).length:Int))) then ((dC b.dD a).bind fun d=>((dC c.dD a).bind fun e=>((fW d e).bind fun f=>(bif (!f) then (bG (some false)) else (some (Sum.inl (IntKind.i64.wrap (a+(1:Int))))))))) else (bG (some true)))
def rD (a b:aw) (c:Unit):Option (Bool) :=
 (bA (iV a b) (0:Int))
def oF (a b:aw) (c:Unit):Option (Bool) :=
 (ia (bA (iW a b) (0:Int)) (rD a b))
def lv (a b:aw):Option (Bool) :=
 (bif (!((a.ID.ab==b.ID.ab)&&(a.ID.Seq==b.ID.Seq))) then (some false) else (bif (a.ae !=b.ae) then (some false) else (bif (((a.dO).length:Int) !=((b.dO).length:Int)) then (some false) else (bif (((a.aX).length:Int) !=((b.aX).length:Int)) then (some false) else (bif (((a.dD).length:Int) !=((b.dD).length:Int)) then (some false) else (bif (!(sEq (lB a.Data) (lB b.Data))) then (some false) else (ia (bA (iO a b) (0:Int)) (oF a b))))))))
def pG (b:(List Nat)) (c:Nat) (a:(Int)):Option ((Int) ⊕ (Bool)) :=
 (bif (decide (a<((b).length:Int))) then ((dC b a).bind fun d=>((fW d c).bind fun e=>(bif e then (bG (some true)) else (some (Sum.inl (IntKind.i64.wrap (a+(1:Int)))))))) else (bG (some false)))
def tI (a:(List Nat)) (b:Nat):Option (Bool) :=
 (bA (pG a b) (0:Int))
def mq (a b c:Nat):Option (Bool) :=
 ((my a b).bind fun d=>(bif (!d) then ((my c a).bind fun e=>(some (!e))) else (some false)))
def nh (b:aw) (d:Nat) (a:(Int)):Option ((Int) ⊕ (Unit ⊕ (Bool))) :=
 (bif (decide (a<((b.aX).length:Int))) then ((dC b.aX a).bind fun c=>((mq d c.1 c.2).bind fun e=>(bif e then (bG (bG (some true))) else (some (Sum.inl (IntKind.i64.wrap (a+(1:Int)))))))) else (bG (some (Sum.inl ()))))
def oL (a:aw) (b:Nat) (d:Unit):Option (Bool) :=
 ((tI a.dO b).bind fun c=>(some c))
def qL (a:aw) (b:Nat):Option (Bool) :=
 (ia (bA (nh a b) (0:Int)) (oL a b))
def og (b c:aw) (a:(Int)):Option ((Int) ⊕ (Unit ⊕ (Bool))) :=
 (bif (decide (a<((b.dD).length:Int))) then ((dC b.dD a).bind fun d=>((tI c.dD d).bind fun e=>(bif e then (bG (bG (some true))) else ((qL c d).bind fun f=>(bif f then (bG (bG (some true))) else (some (Sum.inl (IntKind.i64.wrap (a+(1:Int)))))))))) else (bG (some (Sum.inl ()))))
def oc (b c:aw) (a:(Int)):Option ((Int) ⊕ (Bool)) :=
 (bif (decide (a<((b.dD).length:Int))) then ((dC b.dD a).bind fun d=>((qL c d).bind fun e=>(bif e then (bG (some true)) else (some (Sum.inl (IntKind.i64.wrap (a+(1:Int)))))))) else (bG (some false)))
def qm (a b:aw) (c:Unit):Option (Bool) :=
 (bA (oc a b) (0:Int))
def tV (a b:aw):Option (Bool) :=
 (ia (bA (og a b) (0:Int)) (qm b a))
def oi (d:(List aw)) (e:cy) (s:((List aw)×Int)):Option (((List aw)×Int) ⊕ ((List aw))) :=
 match s with | (a,b)=>(bif (decide (b<((d).length:Int))) then ((dC d b).bind fun c=>(bif (!((c.ID.ab==e.ab)&&(c.ID.Seq==e.Seq))) then (gd (room a ([c])) (some (Sum.inl ((a++([c])),(IntKind.i64.wrap (b+(1:Int))))))) else (some (Sum.inl (a,(IntKind.i64.wrap (b+(1:Int)))))))) else (bG (some a)))
def rZ (a:(List aw)) (b:cy):Option ((List aw)) :=
 (bA (oi a b) ([],(0:Int)))
def ow (b:(List aw)) (c:aw) (a:(Int)):Option ((Int) ⊕ (Unit ⊕ ((List aw)×Bool))) :=
 (bif (decide (a<((b).length:Int))) then ((dC b a).bind fun d=>(bif (!((d.ID.ab==c.ID.ab)&&(d.ID.Seq==c.ID.Seq))) then ((tV d c).bind fun e=>(bif e then (bG (bG (some (b,false)))) else (some (Sum.inl (IntKind.i64.wrap (a+(1:Int))))))) else (some (Sum.inl (IntKind.i64.wrap (a+(1:Int))))))) else (bG (some (Sum.inl ()))))
def sv (a:((List aw))):Option ((List aw)×Bool) :=
 (some (a,true))
def pV (c:(List aw)) (a:aw) (d:Unit):Option ((List aw)×Bool) :=
 ((((rZ c a.ID).bind fun b=>(gd (room b ([a])) (some (b++([a])))))).bind (sv))
def sr (a:(List aw)) (b:aw):Option ((List aw)×Bool) :=
 (ia (bA (ow a b) (0:Int)) (pV a b))
def fm (a:aq) (c:aw) (d:Unit):Option (Int×aq) :=
 ((sr a.H c).bind fun b=>(bif (!b.2) then (some ((8:Int),a)) else (some ((0:Int),({a with H:=b.1}:aq)))))
def pT (c:Bool) (b:aw) (a:aq) (d:Unit):Option (Int×aq) :=
 (ia (bif (!c) then (bif (b.ae !=a.ae) then (bG (some ((9:Int),a))) else (some (Sum.inl ()))) else (some (Sum.inl ()))) (fm a b))
def pJ (c:Bool) (a:aw) (b:aq) (d:Int) (e:Unit):Option (Int×aq) :=
 (ia (bif c then (bif (decide (a.ID.ab<(9223372036854775808:Int))) then (bG (some ((8:Int),b))) else (bif (decide (a.ae≤d)) then (bG (some ((8:Int),b))) else (some (Sum.inl ())))) else (some (Sum.inl ()))) (pT c a b))
def pU (a:aw) (b:aq) (s:(Int×Int×Int×(List Nat)×(List (Nat×Nat))×(List Nat)×(List Int)×Bool)):Option (Int×aq) :=
 match s with | (e,f,c,g,h,i,j,d)=>(ia (bif d then ((lv ({ID:=({ab:=e,Seq:=f}:cy),ae:=c,dO:=g,aX:=h,dD:=i,Data:=j}:aw) a).bind fun k=>(bif k then (bG (some ((0:Int),b))) else (some (Sum.inl ())))) else (some (Sum.inl ()))) (pJ d a b c))
def kX (b:aq) (c:aw):Option (Int×aq) :=
 ((((nA b.H c.ID).bind fun a=>(some (a.1.ID.ab,a.1.ID.Seq,a.1.ae,a.1.dO,a.1.aX,a.1.dD,a.1.Data,a.2)))).bind (pU c b))
def om (d:(List aP)) (f:Nat) (g:Int) (s:(Int×Int)):Option ((Int×Int) ⊕ (Int)) :=
 match s with | (b,a)=>(bif (decide (a<((d).length:Int))) then ((dC d a).bind fun c=>((fW c.At f).bind fun h=>(bif h then (bif (decide (c.ae≤g)) then (bif (decide (b<(0:Int))) then (some (Sum.inl (a,(IntKind.i64.wrap (a+(1:Int)))))) else ((dC d b).bind fun e=>(bif (decide (e.ae<c.ae)) then (some (Sum.inl (a,(IntKind.i64.wrap (a+(1:Int)))))) else (bif (e.ae==c.ae) then (bif (decide (e.Index<c.Index)) then (some (Sum.inl (a,(IntKind.i64.wrap (a+(1:Int)))))) else (some (Sum.inl (b,(IntKind.i64.wrap (a+(1:Int))))))) else (some (Sum.inl (b,(IntKind.i64.wrap (a+(1:Int)))))))))) else (some (Sum.inl (b,(IntKind.i64.wrap (a+(1:Int))))))) else (some (Sum.inl (b,(IntKind.i64.wrap (a+(1:Int))))))))) else (bG (some b)))
def tW (a:(List aP)) (b:Nat) (c:Int):Option (Int) :=
 (bA (om a b c) (((-1):Int),(0:Int)))
def lf (a:(List aP)) (d:Nat) (e:Int):Option (cC) :=
 ((tW a d e).bind fun b=>(bif (decide (b<(0:Int))) then (some ({Has:=false,Val:=[]}:cC)) else ((dC a b).bind fun c=>(bif c.Del then (some ({Has:=false,Val:=[]}:cC)) else (some ({Has:=true,Val:=c.Val}:cC))))))
def nv (b:(List Nat)) (c:(List aP)) (d:Int) (a:(Int)):Option ((Int) ⊕ (Int)) :=
 (bif (decide (a<((b).length:Int))) then ((dC b a).bind fun e=>((dC c d).bind fun f=>((my e f.At).bind fun g=>(bif g then (some (Sum.inl (IntKind.i64.wrap (a+(1:Int))))) else (bG (some a)))))) else (bG (some a)))
def nD (a:(List Nat)) (f:(List aP)) (c:Int) (b:(Int)):Option (((List Nat)×Int) ⊕ ((List Nat))) :=
 (bif (decide (b<((a).length:Int))) then ((dC a b).bind fun g=>((dC f c).bind fun d=>((fW g d.At).bind fun h=>(bif h then (some (Sum.inl (a,(IntKind.i64.wrap (c+(1:Int)))))) else (gd (fits a (0:Int) b) (gd (room ([]:List Nat) (lL a (0:Int) b)) (gd (room (lL a (0:Int) b) ([d.At])) (gd (fits a b (((a).length:Nat):Int)) (gd (room ((lL a (0:Int) b)++([d.At])) (lL a b (((a).length:Nat):Int))) (some (Sum.inl ((((lL a (0:Int) b)++([d.At]))++(lL a b (((a).length:Nat):Int))),(IntKind.i64.wrap (c+(1:Int))))))))))))))) else (gd (fits a (0:Int) b) (gd (room ([]:List Nat) (lL a (0:Int) b)) ((dC f c).bind fun e=>(gd (room (lL a (0:Int) b) ([e.At])) (gd (fits a b (((a).length:Nat):Int)) (gd (room ((lL a (0:Int) b)++([e.At])) (lL a b (((a).length:Nat):Int))) (some (Sum.inl ((((lL a (0:Int) b)++([e.At]))++(lL a b (((a).length:Nat):Int))),(IntKind.i64.wrap (c+(1:Int)))))))))))))
def pt (a:(List aP)) (s:((List Nat)×Int)):Option (((List Nat)×Int) ⊕ ((List Nat))) :=
 match s with | (b,c)=>(bif (decide (c<((a).length:Int))) then (((bA (nv b a c) (0:Int))).bind (nD b a c)) else (bG (some b)))
def uV (a:(List aP)):Option ((List Nat)) :=
 (bA (pt a) ([],(0:Int)))
def oa (e:((List Nat))) (f:Int) (g:(List aP)) (h:Int) (i j:Nat) (s:((List bP)×Int)):Option (((List bP)×Int) ⊕ ((List bP))) :=
 match s with | (a,b)=>(bif (decide (b<((e).length:Int))) then (bif (decide (((a).length:Int)<f)) then ((dC e b).bind fun c=>((lf g c h).bind fun d=>(bif d.Has then ((mq c i j).bind fun k=>(bif k then (gd (room a ([({At:=c,Val:=d.Val}:bP)])) (some (Sum.inl ((a++([({At:=c,Val:=d.Val}:bP)])),(IntKind.i64.wrap (b+(1:Int))))))) else (some (Sum.inl (a,(IntKind.i64.wrap (b+(1:Int)))))))) else (some (Sum.inl (a,(IntKind.i64.wrap (b+(1:Int))))))))) else (bG (some a))) else (bG (some a)))
def oK (a:(List aP)) (b c:Nat) (d e:Int):Option ((List bP)) :=
 ((uV a).bind fun f=>(bA (oa f e a d b c) ([],(0:Int))))
def jg (c:aw) (e:aq) (s:((List cC)×Int)):Option (((List cC)×Int) ⊕ ((List cC))) :=
 match s with | (a,b)=>(bif (decide (b<((c.dO).length:Int))) then ((dC c.dO b).bind fun f=>((lf e.V f (18446744073709551615:Int)).bind fun d=>(gd (room a ([d])) (some (Sum.inl ((a++([d])),(IntKind.i64.wrap (b+(1:Int))))))))) else (bG (some a)))
def gR (c:aw) (f:aq) (g:(List cC)) (s:((List (List bP))×Int)):Option (((List (List bP))×Int) ⊕ (bB)) :=
 match s with | (a,b)=>(bif (decide (b<((c.aX).length:Int))) then ((dC c.aX b).bind fun d=>((oK f.V d.1 d.2 (18446744073709551615:Int) (64:Int)).bind fun e=>(gd (room a ([e])) (some (Sum.inl ((a++([e])),(IntKind.i64.wrap (b+(1:Int))))))))) else (bG (some ({E:=(0:Int),ae:=(0:Int),Index:=(0:Int),dU:=g,aX:=a}:bB))))
def mN (a:aw) (b:aq) (c:((List cC))):Option (bB) :=
 (bA (gR a b c) ([],(0:Int)))
def kV (a:aq) (b:aw):Option (bB) :=
 (((bA (jg b a) ([],(0:Int)))).bind (mN b a))
def pD (e:(List aP)) (d:aP) (s:((List aP)×Int)):Option (((List aP)×Int) ⊕ ((List aP))) :=
 match s with | (b,c)=>(bif (decide (c<((e).length:Int))) then ((dC e c).bind fun a=>((fW a.At d.At).bind fun f=>(bif (!f) then (gd (room b ([a])) (some (Sum.inl ((b++([a])),(IntKind.i64.wrap (c+(1:Int))))))) else (bif (a.ae !=d.ae) then (gd (room b ([a])) (some (Sum.inl ((b++([a])),(IntKind.i64.wrap (c+(1:Int))))))) else (bif (a.Index !=d.Index) then (gd (room b ([a])) (some (Sum.inl ((b++([a])),(IntKind.i64.wrap (c+(1:Int))))))) else (some (Sum.inl (b,(IntKind.i64.wrap (c+(1:Int))))))))))) else (bG (some b)))
def tt (b:(List aP)) (a:aP) (c:((List Int))):Option ((List aP)) :=
 (gd (room b ([({a with Val:=c}:aP)])) (some (b++([({a with Val:=c}:aP)]))))
def tu (a:aP) (b:((List aP))):Option ((List aP)) :=
 (((bif a.Del then (some ([])) else (some a.Val))).bind (tt b a))
def rT (b:(List aP)) (a:aP):Option ((List aP)) :=
 (((bA (pD b a) ([],(0:Int)))).bind (tu a))
def mG (b:(List dh)) (c:Int) (a:(Int)):Option ((Int) ⊕ (dh)) :=
 (bif (decide (a<((b).length:Int))) then ((dC b a).bind fun d=>(bif (d.ab==c) then (bG (some d)) else (some (Sum.inl (IntKind.i64.wrap (a+(1:Int))))))) else (bG (some ({ab:=c,Seq:=(0:Int),R:=ct}:dh))))
def ku (a:(List dh)) (b:Int):Option (dh) :=
 (bA (mG a b) (0:Int))
def kN (d:(List dh)) (e:Int) (s:((List dh)×Int)):Option (((List dh)×Int) ⊕ ((List dh)×Int)) :=
 match s with | (a,b)=>(bif (decide (b<((d).length:Int))) then ((dC d b).bind fun c=>(bif (c.ab !=e) then (gd (room a ([c])) (some (Sum.inl ((a++([c])),(IntKind.i64.wrap (b+(1:Int))))))) else (some (Sum.inl (a,(IntKind.i64.wrap (b+(1:Int)))))))) else (bG (some (a,(0:Int)))))
def qB (a:(List dh)) (b c:Int) (d:bB):Option ((List dh)×Int) :=
 (bif (c==(0:Int)) then (some (a,(1:Int))) else ((ku a b).bind fun e=>(bif (decide (e.Seq≥c)) then (some (a,(10:Int))) else (bA (kN a b) ([({ab:=b,Seq:=c,R:=d}:dh)],(0:Int))))))
def gZ (d:aq) (e:cy) (s:((List bH)×Int)):Option (((List bH)×Int) ⊕ ((List bH))) :=
 match s with | (a,b)=>(bif (decide (b<((d.Open).length:Int))) then ((dC d.Open b).bind fun c=>(bif (!((c.ID.ab==e.ab)&&(c.ID.Seq==e.Seq))) then (gd (room a ([c])) (some (Sum.inl ((a++([c])),(IntKind.i64.wrap (b+(1:Int))))))) else (some (Sum.inl (a,(IntKind.i64.wrap (b+(1:Int)))))))) else (bG (some a)))
def lI (a:aq) (b:((List bH))):Option (aq) :=
 (some ({a with Open:=b}:aq))
def il (a:aq) (b:cy):Option (aq) :=
 (((bA (gZ a b) ([],(0:Int)))).bind (lI a))
def lF (a:(aq)) (b:aG) (c d:Int) (e:((List dM))):Option (aq) :=
 (gd (room a.Open ([({b with E:=c,Index:=d,dN:=e}:bH)])) (some ({a with Open:=(a.Open++([({b with E:=c,Index:=d,dN:=e}:bH)]))}:aq)))
def lG (a:aG) (b c:Int) (d:(List cC)) (e:(List (List bP))) (f:(aq)):Option (bU×aq) :=
 (some (({Kind:=(4:Int),ID:=a.ID,R:=({E:=b,ae:=a.ae,Index:=c,dU:=d,aX:=e}:bB)}:bU),f))
def lJ (a:aq) (b:aG) (c d:Int) (f:(List cC)) (g:(List (List bP))) (j:Unit):Option (bU×aq) :=
 ((qB a.A b.ID.ab b.ID.Seq ({E:=c,ae:=b.ae,Index:=d,dU:=f,aX:=g}:bB)).bind fun e=>(bif (e.2 !=(0:Int)) then ((ku a.A b.ID.ab).bind fun h=>(bif (decide (h.Seq>b.ID.Seq)) then (some (({Kind:=(4:Int),ID:=b.ID,R:=({E:=(10:Int),ae:=(0:Int),Index:=(0:Int),dU:=[],aX:=[]}:bB)}:bU),a)) else (some (cD,a)))) else (((bif (b.bY !=(0:Int)) then ((il ({a with A:=e.1}:aq) b.ID).bind fun i=>(((bif (c==(0:Int)) then (some b.dN) else (some ([])))).bind (lF i b c d))) else (some ({a with A:=e.1}:aq)))).bind (lG b c d f g))))
def jo (a:aG) (b:aq) (d:Int) (s:(Int×(List cC)×(List (List bP)))):Option (bU×aq) :=
 match s with | (c,e,f)=>(ia (bif (c !=(0:Int)) then (bif (decide (a.ID.ab≥(9223372036854775808:Int))) then (bG (some (cD,b))) else (some (Sum.inl ()))) else (some (Sum.inl ()))) (lJ b a c d e f))
def jB (b:aq) (c:Int) (a:aG):Option (bU×aq) :=
 (((bif (a.R.E==(0:Int)) then (bif (a.ae !=b.ae) then (some ((9:Int),[],[])) else (some (a.R.E,a.R.dU,a.R.aX))) else (some (a.R.E,a.R.dU,a.R.aX)))).bind (jo a b c))
def lO (b:(List dA)) (a:dA) (d:Int) (s:(Bool×Int)):Option ((Int×(List dA)×Bool) ⊕ ((List dA)×Bool)) :=
 match s with | (e,c)=>(gd (room b ([({a with To:=c}:dA)])) (some (Sum.inl ((IntKind.i64.wrap (d+(1:Int))),(b++([({a with To:=c}:dA)])),e))))
def kx (d:(List dA)) (f g:Int) (s:(Int×(List dA)×Bool)):Option ((Int×(List dA)×Bool) ⊕ ((List dA)×Bool)) :=
 match s with | (b,e,c)=>(bif (decide (b<((d).length:Int))) then ((dC d b).bind fun a=>(((bif (a.R.ID==f) then (bif (a.To==(0:Int)) then (some (true,g)) else (some (c,a.To))) else (some (c,a.To)))).bind (lO e a b))) else (bG (some (e,c))))
def td (s:((List dA)×Bool)):Option ((List dA)×Bool) :=
 match s with | (a,b)=>(some (a,b))
def nV (a:(List dA)) (b:Int) (c:(Int)):Option ((List dA)×Bool) :=
 (((bA (kx a b c) ((0:Int),[],false))).bind (td))
def pH (b:(List dA)) (c a:Int):Option ((List dA)×Bool) :=
 (((bif (a==(0:Int)) then (some (1:Int)) else (some a))).bind (nV b c))
def tC (a:(List Int)) (c:Int) (b:(Int)):Option (((List Int)×Int) ⊕ ((List Int))) :=
 (gd (room a ([b])) (some (Sum.inl ((a++([b])),(IntKind.i64.wrap (c+(1:Int)))))))
def lW (d:Int) (b:bK) (s:((List Int)×Int)):Option (((List Int)×Int) ⊕ ((List Int))) :=
 match s with | (c,a)=>(bif (decide (a<d)) then (bif (!b.Del) then (((bif (decide (a<((b.Val).length:Int))) then ((dC b.Val a).bind fun e=>(some e)) else (some (0:Int)))).bind (tC c a)) else (bG (some c))) else (bG (some c)))
def rF (a:bK) (b:((List Int))):Option (bK) :=
 (some ({a with Val:=b}:bK))
def vd (a:bK) (b:Int):Option (bK) :=
 (((bA (lW b a) ([],(0:Int)))).bind (rF a))
def gO (e:aq) (f:aG) (s:(Int×Int×(List eN))):Option ((Int×Int×(List eN)) ⊕ (Int×(List eN))) :=
 match s with | (d,a,b)=>(bif (decide (a<((e.pR).length:Int))) then ((dC e.pR a).bind fun c=>(bif (c.ap !=f.ap.ID) then (gd (room b ([c])) (some (Sum.inl (d,(IntKind.i64.wrap (a+(1:Int))),(b++([c])))))) else (bif (c.ae==f.ae) then (some (Sum.inl (c.N,(IntKind.i64.wrap (a+(1:Int))),b))) else (some (Sum.inl (d,(IntKind.i64.wrap (a+(1:Int))),b)))))) else (bG (some (d,b))))
def gN (d:aq) (e:aG) (s:((List dw)×Int)):Option (((List dw)×Int) ⊕ ((List dw))) :=
 match s with | (a,b)=>(bif (decide (b<((d.Out).length:Int))) then ((dC d.Out b).bind fun c=>(bif (c.To==e.ap.To) then (gd (room a ([c])) (some (Sum.inl ((a++([c])),(IntKind.i64.wrap (b+(1:Int))))))) else (some (Sum.inl (a,(IntKind.i64.wrap (b+(1:Int)))))))) else (bG (some a)))
def mP (a:aG) (b c:Int) (d:(aq)):Option (bU×aq) :=
 (some (({Kind:=(4:Int),ID:=a.ID,R:=({E:=b,ae:=a.ae,Index:=c,dU:=[],aX:=[]}:bB)}:bU),d))
def eY (a:aq) (b:aG) (e:Int) (f:(List eN)) (g:Int) (c:(Int)):Option (bU×aq) :=
 ((qB a.A b.ID.ab b.ID.Seq ({E:=c,ae:=b.ae,Index:=e,dU:=[],aX:=[]}:bB)).bind fun d=>(bif (d.2 !=(0:Int)) then ((ku a.A b.ID.ab).bind fun j=>(bif (decide (j.Seq>b.ID.Seq)) then (some (({Kind:=(4:Int),ID:=b.ID,R:=({E:=(10:Int),ae:=(0:Int),Index:=(0:Int),dU:=[],aX:=[]}:bB)}:bU),a)) else (some (cD,a)))) else (((bif (c==(0:Int)) then (gd (room f ([({ap:=b.ap.ID,ae:=b.ae,N:=(IntKind.i64.wrap (g+(1:Int)))}:eN)])) ((dC b.cw (0:Int)).bind fun k=>((bA (gN a b) ([],(0:Int))).bind fun h=>((vd k a.zx).bind fun i=>(gd (room a.Out ([({To:=b.ap.To,N:=(IntKind.u64.wrap (IntKind.i64.wrap (((h).length:Int)+(1:Int)))),ap:=b.ap.ID,ae:=b.ae,W:=i}:dw)])) (some ({a with A:=d.1,Out:=(a.Out++([({To:=b.ap.To,N:=(IntKind.u64.wrap (IntKind.i64.wrap (((h).length:Int)+(1:Int)))),ap:=b.ap.ID,ae:=b.ae,W:=i}:dw)])),pR:=(f++([({ap:=b.ap.ID,ae:=b.ae,N:=(IntKind.i64.wrap (g+(1:Int)))}:eN)]))}:aq))))))) else (some ({a with A:=d.1}:aq)))).bind (mP b c e))))
def kC (b:Int) (c:aG) (d:aq) (e:Int) (f:(List eN)) (a:(Int)):Option (bU×aq) :=
 (((bif (a==(0:Int)) then (bif (decide (b≥c.ap.cx)) then (some (13:Int)) else (some a)) else (some a))).bind (eY d c e f b))
def kG (b:aG) (c:Int) (d:aq) (e:Int) (f:(List eN)) (a:(Int)):Option (bU×aq) :=
 (((bif (a==(0:Int)) then (bif (((b.cw).length:Int) !=(1:Int)) then (some (1:Int)) else (some a)) else (some a))).bind (kC c b d e f))
def mO (a:aG) (b:aq) (c:Int) (s:(Int×(List eN))):Option (bU×aq) :=
 match s with | (d,e)=>(((bif (a.R.E==(0:Int)) then (bif (a.ae !=b.ae) then (some (9:Int)) else (some a.R.E)) else (some a.R.E))).bind (kG a d b c e))
def ld (a:aq) (c:Int) (b:aG):Option (bU×aq) :=
 (((bA (gO a b) ((0:Int),(0:Int),[]))).bind (mO b a c))
def me (b:(Int×aq)) (a:(bU)):Option (bU×aq) :=
 (some (({a with R:=({a.R with E:=b.1}:bB)}:bU),b.2))
def eI (e:Bool) (b:aG) (s:(aq×Int)):Option ((aq×Int) ⊕ (aq)) :=
 match s with | (a,c)=>(bif e then (bif (b.E==(0:Int)) then (bif (decide (c<((b.cw).length:Int))) then ((dC b.cw c).bind fun d=>((rT a.V ({d with ae:=b.ae,Index:=b.Index}:aP)).bind fun f=>(some (Sum.inl (({a with V:=f}:aq),(IntKind.i64.wrap (c+(1:Int)))))))) else (bG (some a))) else (bG (some a))) else (bG (some a)))
def oM (a:aG) (b:(aq)):Option (bU×aq) :=
 (some (({Kind:=(3:Int),ID:=a.ID,R:=ct}:bU),b))
def jR (a:aq) (b:aG) (c:(Bool)):Option (bU×aq) :=
 ((rZ a.H b.ID).bind fun d=>(((bA (eI c b) (({a with H:=d}:aq),(0:Int)))).bind (oM b)))
def dr (a:aq) (e:Int) (b:aG):Option (bU×aq) :=
 (bif (b.Kind==(1:Int)) then (bif (b.ae !=a.ae) then (some (cD,a)) else ((kt a).bind fun h=>(bif (!h) then (some (cD,a)) else (bif (decide ((IntKind.u64.wrap (a.ae+(1:Int)))>(9:Int))) then none else (some (({Kind:=(1:Int),ID:=({ab:=(0:Int),Seq:=(0:Int)}:cy),R:=ct}:bU),({a with ae:=(IntKind.u64.wrap (a.ae+(1:Int)))}:aq))))))) else (bif (b.Kind==(2:Int)) then ((kX a b.br).bind fun c=>(((bif (c.1==(0:Int)) then ((kV c.2 b.br).bind fun i=>(some ({Kind:=(2:Int),ID:=b.br.ID,R:=i}:bU))) else (some ({Kind:=(2:Int),ID:=b.br.ID,R:=ct}:bU)))).bind (me c))) else (bif (b.Kind==(3:Int)) then ((((nA a.H b.ID).bind fun j=>(some j.2))).bind (jR a b)) else (bif (b.Kind==(4:Int)) then ((jB a e b).bind fun f=>(some (f.1,f.2))) else (bif (b.Kind==(5:Int)) then ((il a b.ID).bind fun k=>(some (cD,k))) else (bif (b.Kind==(6:Int)) then ((pH a.B b.ap.ID a.ae).bind fun d=>(bif b.On then (gd (room d.1 ([({R:=b.ap,dn:=a.ae,To:=(0:Int)}:dA)])) (some (cD,({a with B:=(d.1++([({R:=b.ap,dn:=a.ae,To:=(0:Int)}:dA)]))}:aq)))) else (some (cD,({a with B:=d.1}:aq))))) else (bif (b.Kind==(7:Int)) then ((ld a e b).bind fun g=>(some (g.1,g.2))) else (some (cD,a)))))))))
def gV (b e:(List cC)) (a:(Int)):Option ((Int) ⊕ (Bool)) :=
 (bif (decide (a<((b).length:Int))) then ((dC b a).bind fun c=>((dC e a).bind fun d=>(bif (!(c.Has==d.Has)) then none else (bif (!(sEq (lB c.Val) (lB d.Val))) then none else (some (Sum.inl (IntKind.i64.wrap (a+(1:Int))))))))) else (bG (some true)))
def iS (a b:(List cC)):Option (Bool) :=
 (bif (((a).length:Int) !=((b).length:Int)) then none else (bA (gV a b) (0:Int)))
def ie (b e:(List bP)) (a:(Int)):Option ((Int) ⊕ (Bool)) :=
 (bif (decide (a<((b).length:Int))) then ((dC b a).bind fun c=>((dC e a).bind fun d=>((fW c.At d.At).bind fun f=>(bif (!f) then none else (bif (!(sEq (lB c.Val) (lB d.Val))) then none else (some (Sum.inl (IntKind.i64.wrap (a+(1:Int)))))))))) else (bG (some true)))
def jm (a b:(List bP)):Option (Bool) :=
 (bif (((a).length:Int) !=((b).length:Int)) then none else (bA (ie a b) (0:Int)))
def im (b c:bB) (a:(Int)):Option ((Int) ⊕ (Bool)) :=
 (bif (decide (a<((b.aX).length:Int))) then ((dC b.aX a).bind fun d=>((dC c.aX a).bind fun e=>((jm d e).bind fun f=>(bif (!f) then none else (some (Sum.inl (IntKind.i64.wrap (a+(1:Int))))))))) else (bG (some true)))
def gI (a b:bB):Option (Bool) :=
 (bif (a.E !=b.E) then none else (bif (a.ae !=b.ae) then none else (bif (a.Index !=b.Index) then none else ((iS a.dU b.dU).bind fun c=>(bif (!c) then none else (bif (((a.aX).length:Int) !=((b.aX).length:Int)) then none else (bA (im a b) (0:Int))))))))
def mX (a b:bU):Option (Bool) :=
 (bif (a.Kind==b.Kind) then (bif ((a.ID.ab==b.ID.ab)&&(a.ID.Seq==b.ID.Seq)) then ((gI a.R b.R).bind fun c=>(some c)) else none) else none)
def eH (a:(List bH)):Option ((List bH)) :=
 gd (room ([]:(List bH)) a) (some a)
def nR (a:(Option ai)):Option ((List bH)) :=
 (match a with | none=>none | some b=>((eH b.open_).bind fun c=>(some c)))
def gQ (d e:(List bK)) (a:(Int)):Option ((Int) ⊕ (Bool)) :=
 (bif (decide (a<((d).length:Int))) then ((dC d a).bind fun b=>((dC e a).bind fun c=>((fW b.At c.At).bind fun f=>(bif (!f) then none else (bif (!(b.Del==c.Del)) then none else (bif (!(sEq (lB b.Val) (lB c.Val))) then none else (some (Sum.inl (IntKind.i64.wrap (a+(1:Int))))))))))) else (bG (some true)))
def iF (a b:(List bK)):Option (Bool) :=
 (bif (((a).length:Int) !=((b).length:Int)) then none else (bA (gQ a b) (0:Int)))
def fE (b f:bH) (s:(Bool×Int)):Option ((Bool×Int) ⊕ (Bool)) :=
 match s with | (c,a)=>(bif (decide (a<((b.dN).length:Int))) then (bif c then ((dC b.dN a).bind fun d=>((dC f.dN a).bind fun e=>(bif (d.oA==e.oA) then ((iF d.cw e.cw).bind fun g=>(some (Sum.inl (g,(IntKind.i64.wrap (a+(1:Int))))))) else (some (Sum.inl (false,(IntKind.i64.wrap (a+(1:Int))))))))) else (some (Sum.inl (false,(IntKind.i64.wrap (a+(1:Int))))))) else (bG (some c)))
def nL (b:Bool) (a:Int) (c:(Bool)):Option ((Bool×Int) ⊕ ((Int) ⊕ (Bool))) :=
 (bif b then (some (Sum.inl (true,(IntKind.i64.wrap (a+(1:Int)))))) else (some (Sum.inl (c,(IntKind.i64.wrap (a+(1:Int)))))))
def gL (e g:(List bH)) (f:Int) (s:(Bool×Int)):Option ((Bool×Int) ⊕ ((Int) ⊕ (Bool))) :=
 match s with | (b,a)=>(bif (decide (a<((e).length:Int))) then ((dC g f).bind fun c=>((dC e a).bind fun d=>(bif ((c.ID.ab==d.ID.ab)&&(c.ID.Seq==d.ID.Seq)) then (bif (c.E==d.E) then (bif (c.ae==d.ae) then (bif (c.Index==d.Index) then (bif (c.bY==d.bY) then (bif (((c.dN).length:Int)==((d.dN).length:Int)) then (((bA (fE c d) (true,(0:Int)))).bind (nL b a)) else (some (Sum.inl (b,(IntKind.i64.wrap (a+(1:Int))))))) else (some (Sum.inl (b,(IntKind.i64.wrap (a+(1:Int))))))) else (some (Sum.inl (b,(IntKind.i64.wrap (a+(1:Int))))))) else (some (Sum.inl (b,(IntKind.i64.wrap (a+(1:Int))))))) else (some (Sum.inl (b,(IntKind.i64.wrap (a+(1:Int))))))) else (some (Sum.inl (b,(IntKind.i64.wrap (a+(1:Int))))))))) else (bG (bif (!b) then none else (some (Sum.inl (IntKind.i64.wrap (f+(1:Int))))))))
def iT (a c:(List bH)) (b:(Int)):Option ((Int) ⊕ (Bool)) :=
 (bif (decide (b<((a).length:Int))) then (bA (gL c a b) (false,(0:Int))) else (bG (some true)))
def kH (a b:(List bH)):Option (Bool) :=
 (bif (((a).length:Int) !=((b).length:Int)) then none else (bA (iT a b) (0:Int)))
def jy (d:(Int)) (e:bN) (s:((List cy)×Int)):Option (((List cy)×Int) ⊕ ((List cy))) :=
 match s with | (a,b)=>(bif (decide (b<d)) then ((dC e.l b).bind fun c=>(gd (room a ([c.ID])) (some (Sum.inl ((a++([c.ID])),(IntKind.i64.wrap (b+(1:Int)))))))) else (bG (some a)))
def kl (b:(Option bN)):Option ((List cy)) :=
 (match b with | none=>none | some a=>((jj (some a)).bind fun c=>(bA (jy c a) ([],(0:Int)))))
def lA (a:(Option ai)):Option ((List cy)) :=
 (match a with | none=>none | some b=>((kl b.fw).bind fun c=>(some c)))
def nN (b:(Option ai)) (c:cy):Option (aw×Bool) :=
 (match b with | none=>none | some d=>((jh d.fw c).bind fun a=>(some (a.1,a.2))))
def qE (a:Int):Option (Nat) :=
 ((dC ([(0:Nat),(4607182418800017408:Nat),(13830554455654793216:Nat),(4612811918334230528:Nat),(9094988921128908188:Nat),(18318360957983683996:Nat),(4602678819172646912:Nat),(4613937818241073152:Nat)]) (Int.tmod a (8:Int))).bind fun b=>(some b))
def pq (a:(Option ai)) (b:Nat):Option (cC) :=
 (match a with | none=>none | some c=>((fv c.store b (18446744073709551615:Int)).bind fun d=>(some d)))
def ic (c:(Option ai)) (a:Int):Option (Int) :=
 (match c with | none=>none | some b=>(bif (decide (a≥b.cI)) then (some (2:Int)) else (bif (decide ((IntKind.u64.wrap ((IntKind.u64.wrap (a+(1:Int)))+(8:Int)))<b.cI)) then (some (9:Int)) else (some (0:Int)))))
def oR (d:(Option ai)) (e:Nat) (a:Int):Option (cC×Int) :=
 (match d with | none=>none | some b=>((ic (some b) a).bind fun c=>(bif (c !=(0:Int)) then (some (({Has:=false,Val:=[]}:cC),c)) else ((fv b.store e a).bind fun f=>(some (f,(0:Int)))))))
def ke (d:ai) (e:Int) (s:(Int×(List dw))):Option ((Int×(List dw)) ⊕ ((List dw))) :=
 match s with | (a,b)=>(bif (decide (a<((d.out).length:Int))) then ((dC d.out a).bind fun c=>(bif (c.To==e) then (gd (room b ([c])) (some (Sum.inl ((IntKind.i64.wrap (a+(1:Int))),(b++([c])))))) else (some (Sum.inl ((IntKind.i64.wrap (a+(1:Int))),b))))) else (bG (some b)))
def oW (a:(Option ai)) (b:Int):Option ((List dw)) :=
 (match a with | none=>none | some c=>(bA (ke c b) ((0:Int),[])))
def kh (d:aq) (e:Int) (s:((List dw)×Int)):Option (((List dw)×Int) ⊕ ((List dw))) :=
 match s with | (a,b)=>(bif (decide (b<((d.Out).length:Int))) then ((dC d.Out b).bind fun c=>(bif (c.To==e) then (gd (room a ([c])) (some (Sum.inl ((a++([c])),(IntKind.i64.wrap (b+(1:Int))))))) else (some (Sum.inl (a,(IntKind.i64.wrap (b+(1:Int)))))))) else (bG (some a)))
def qV (a:aq) (b:Int):Option ((List dw)) :=
 (bA (kh a b) ([],(0:Int)))
def nz (a:Int) (b:(Bool)):Option ((Int) ⊕ (Bool)) :=
 (bif b then none else (some (Sum.inl (IntKind.i64.wrap (a+(1:Int))))))
def ll (d e:(List dw)) (c:(Int)):Option ((Int) ⊕ (Bool)) :=
 (bif (decide (c<((d).length:Int))) then ((((dC d c).bind fun a=>((dC e c).bind fun b=>(bif (a.To !=b.To) then none else (bif (a.N !=b.N) then none else (bif (a.ap !=b.ap) then none else (bif (a.ae !=b.ae) then none else ((iF ([a.W]) ([b.W])).bind fun f=>(some (!f)))))))))).bind (nz c)) else (bG (some true)))
def nP (a b:(List dw)):Option (Bool) :=
 (bif (((a).length:Int) !=((b).length:Int)) then none else (bA (ll a b) (0:Int)))
def nQ (a:(Option ai)) (b:Int):Option (Int) :=
 (match a with | none=>none | some c=>((fH c.last b).bind fun d=>(some d)))
def iP (e:(Option bE)) (f b:Int):Option (bB×Int) :=
 (match e with | none=>none | some c=>((gB (some c) f).bind fun d=>(bif (!d.2) then (some (ct,(2:Int))) else ((dC c.l d.1).bind fun a=>(bif (decide (a.seq<b)) then (some (ct,(2:Int))) else (bif (decide (a.seq>b)) then (some (ct,(10:Int))) else (some (a.r,(0:Int)))))))))
def mm (c:(Option ai)) (a:cy):Option (bB×Int) :=
 (match c with | none=>none | some d=>((iP d.last a.ab a.Seq).bind fun b=>(some (b.1,b.2))))
def iR (d:cg) (e c:Int) (b:(Int)):Option ((Int) ⊕ (dV×Bool)) :=
 (bif (decide (b≥(0:Int))) then ((dC d.l b).bind fun a=>(bif (a.r.ID==e) then (bif (decide (a.from_≤c)) then (bif (a.to_==(0:Int)) then (bG (some (a.r,true))) else (bif (decide (a.to_>c)) then (bG (some (a.r,true))) else (some (Sum.inl (IntKind.i64.wrap (b - (1:Int))))))) else (some (Sum.inl (IntKind.i64.wrap (b - (1:Int)))))) else (some (Sum.inl (IntKind.i64.wrap (b - (1:Int))))))) else (bG (some (dY,false))))
def pp (b:(Option cg)) (c d:Int):Option (dV×Bool) :=
 (match b with | none=>none | some a=>(bA (iR a c d) (IntKind.i64.wrap (((a.l).length:Int) - (1:Int)))))
def jF (b:ai) (c d:Int) (e:Unit):Option (dV×Int) :=
 ((pp b.book c d).bind fun a=>(bif (!a.2) then (some (dY,(12:Int))) else (some (a.1,(0:Int)))))
def nX (d:(Option ai)) (e b:Int):Option (dV×Int) :=
 (match d with | none=>none | some c=>(ia ((ic (some c) b).bind fun a=>(bif (a !=(0:Int)) then (bif (a !=(9:Int)) then (bG (some (dY,a))) else (some (Sum.inl ()))) else (some (Sum.inl ())))) (jF c e b)))
def oQ (k:(List dA)) (m l:Int) (s:(Int×Int×Int×Nat×Nat×Int×Int×Int×Bool)):Option ((Int×Int×Int×Nat×Nat×Int×Int×Int×Bool) ⊕ (Int×Int×Int×Nat×Nat×Int×Int×Bool)) :=
 match s with | (c,d,e,f,g,h,i,b,j)=>(bif (decide (b<((k).length:Int))) then ((dC k b).bind fun a=>(bif (a.R.ID==m) then (bif (decide (a.dn≤l)) then (bif (a.To==(0:Int)) then (some (Sum.inl (a.R.ID,a.R.dn,a.R.To,a.R.Lo,a.R.Hi,a.R.Authority,a.R.cx,(IntKind.i64.wrap (b+(1:Int))),true))) else (bif (decide (l<a.To)) then (some (Sum.inl (a.R.ID,a.R.dn,a.R.To,a.R.Lo,a.R.Hi,a.R.Authority,a.R.cx,(IntKind.i64.wrap (b+(1:Int))),true))) else (some (Sum.inl (c,d,e,f,g,h,i,(IntKind.i64.wrap (b+(1:Int))),j))))) else (some (Sum.inl (c,d,e,f,g,h,i,(IntKind.i64.wrap (b+(1:Int))),j)))) else (some (Sum.inl (c,d,e,f,g,h,i,(IntKind.i64.wrap (b+(1:Int))),j))))) else (bG (some (c,d,e,f,g,h,i,j))))
def wI (s:(Int×Int×Int×Nat×Nat×Int×Int×Bool)):Option (dV×Bool) :=
 match s with | (a,b,c,d,e,f,g,h)=>(some (({ID:=a,dn:=b,To:=c,Lo:=d,Hi:=e,Authority:=f,cx:=g}:dV),h))
def wo (a:(List dA)) (b c:Int):Option (dV×Bool) :=
 (((bA (oQ a b c) ((0:Int),(0:Int),(0:Int),(0:Nat),(0:Nat),(0:Int),(0:Int),(0:Int),false))).bind (wI))
def pe (a b:dV):Option (Bool) :=
 (bif (a.ID==b.ID) then (bif (a.dn==b.dn) then (bif (a.To==b.To) then ((fW a.Lo b.Lo).bind fun c=>(bif c then ((fW a.Hi b.Hi).bind fun d=>(bif d then (bif (a.Authority==b.Authority) then (some (a.cx==b.cx)) else none) else none)) else none)) else none) else none) else none)
def sC (a:(aw×Bool)) (b:Int) (s:(Int×Int×Int×(List Nat)×(List (Nat×Nat))×(List Nat)×(List Int)×Bool)):Option ((Int) ⊕ (Unit ⊕ (Bool))) :=
 match s with | (c,d,e,f,g,h,i,j)=>(bif (!a.2) then none else (bif (!j) then none else ((lv a.1 ({ID:=({ab:=c,Seq:=d}:cy),ae:=e,dO:=f,aX:=g,dD:=h,Data:=i}:aw)).bind fun k=>(bif (!k) then none else (some (Sum.inl (IntKind.i64.wrap (b+(1:Int)))))))))
def mD (c:((List cy))) (e:(Option ai)) (f:aq) (b:(Int)):Option ((Int) ⊕ (Unit ⊕ (Bool))) :=
 (bif (decide (b<((c).length:Int))) then ((dC c b).bind fun d=>((nN e d).bind fun g=>((((nA f.H d).bind fun a=>(some (a.1.ID.ab,a.1.ID.Seq,a.1.ae,a.1.dO,a.1.aX,a.1.dD,a.1.Data,a.2)))).bind (sC g b)))) else (bG (some (Sum.inl ()))))
def pX (a:Int) (b:(Bool)):Option ((Int) ⊕ ((Int) ⊕ (Unit ⊕ (Bool)))) :=
 (bif b then none else (some (Sum.inl (IntKind.u64.wrap (a+(1:Int))))))
def pZ (a:(cC×Int)) (c:Int) (d:aq) (b:Int) (e:(Int)):Option ((Int) ⊕ ((Int) ⊕ (Unit ⊕ (Bool)))) :=
 (((bif (a.2 !=e) then none else (bif (a.2==(0:Int)) then ((qE c).bind fun f=>((lf d.V f b).bind fun g=>((iS ([a.1]) ([g])).bind fun h=>(some (!h))))) else (some false)))).bind (pX b))
def mB (b:Int) (d:(Option ai)) (c:aq) (a:(Int)):Option ((Int) ⊕ ((Int) ⊕ (Unit ⊕ (Bool)))) :=
 (bif (decide (a<(6:Int))) then ((qE b).bind fun e=>((oR d e a).bind fun f=>(((bif (decide (a≥c.ae)) then (some (2:Int)) else (bif (decide ((IntKind.u64.wrap (a+(9:Int)))<c.ae)) then (some (9:Int)) else (some (0:Int))))).bind (pZ f b c a)))) else (bG (some (Sum.inl (IntKind.i64.wrap (b+(1:Int)))))))
def ss (a:Int) (b:(Option ai)) (c:aq) (d:(Bool)):Option ((Int) ⊕ (Unit ⊕ (Bool))) :=
 (bif d then none else (bA (mB a b c) (0:Int)))
def ot (b:(Option ai)) (c:aq) (a:(Int)):Option ((Int) ⊕ (Unit ⊕ (Bool))) :=
 (bif (decide (a<(8:Int))) then ((((qE a).bind fun d=>((pq b d).bind fun e=>((qE a).bind fun f=>((lf c.V f (18446744073709551615:Int)).bind fun g=>((iS ([e]) ([g])).bind fun h=>(some (!h)))))))).bind (ss a b c)) else (bG (some (Sum.inl ()))))
def mT (a:(dV×Int)) (c:(dV×Bool)) (b:Int) (d:(Int)):Option ((Int) ⊕ ((Int) ⊕ (Bool))) :=
 (bif (a.2 !=d) then none else (bif (a.2==(0:Int)) then ((pe a.1 c.1).bind fun e=>(bif (!e) then none else (some (Sum.inl (IntKind.u64.wrap (b+(1:Int))))))) else (some (Sum.inl (IntKind.u64.wrap (b+(1:Int)))))))
def nk (a:Int) (b:aq) (c:(dV×Int)) (d:(dV×Bool)) (e:(Int)):Option ((Int) ⊕ ((Int) ⊕ (Bool))) :=
 (((bif (decide (a≥b.ae)) then (some (2:Int)) else (some e))).bind (mT c d a))
def lq (e:(Option ai)) (b:Int) (c:aq) (a:(Int)):Option ((Int) ⊕ ((Int) ⊕ (Bool))) :=
 (bif (decide (a<(4:Int))) then ((nX e (IntKind.u64.wrap b) a).bind fun f=>((wo c.B (IntKind.u64.wrap b) a).bind fun d=>(((bif (!d.2) then (some (12:Int)) else (some (0:Int)))).bind (nk a c f d)))) else (bG (some (Sum.inl (IntKind.i64.wrap (b+(1:Int)))))))
def rA (a:(Option ai)) (b:Int) (c:aq) (d:Unit):Option ((Int) ⊕ (Bool)) :=
 (bA (lq a b c) (0:Int))
def ov (b:(Option ai)) (c:aq) (a:(Int)):Option ((Int) ⊕ (Bool)) :=
 (bif (decide (a<(4:Int))) then ((oW b a).bind fun f=>((qV c a).bind fun g=>((nP f g).bind fun h=>(bif (!h) then none else ((nQ b (IntKind.u64.wrap a)).bind fun i=>((ku c.A (IntKind.u64.wrap a)).bind fun j=>(bif (i !=j.Seq) then none else ((ku c.A (IntKind.u64.wrap a)).bind fun d=>((mm b ({ab:=(IntKind.u64.wrap a),Seq:=d.Seq}:cy)).bind fun e=>(ia (bif (decide (d.Seq>(0:Int))) then (bif (e.2 !=(0:Int)) then none else ((gI e.1 d.R).bind fun k=>(bif (!k) then none else (some (Sum.inl ()))))) else (some (Sum.inl ()))) (rA b a c))))))))))) else (bG (some true)))
def uH (a:(Option ai)) (b:aq) (c:Unit):Option (Bool) :=
 (bA (ov a b) (0:Int))
def pY (a:(Option ai)) (b:aq) (c:Unit):Option (Bool) :=
 (ia (bA (ot a b) (0:Int)) (uH a b))
def uc (a:(Option ai)) (b:aq):Option (Bool) :=
 ((kZ a).bind fun d=>(bif (d !=b.ae) then none else ((lD a).bind fun e=>((kt b).bind fun f=>(bif (!(e==f)) then none else ((nR a).bind fun g=>((kH g b.Open).bind fun h=>(bif (!h) then none else ((lA a).bind fun c=>(bif (((c).length:Int) !=((b.H).length:Int)) then none else (ia (bA (mD c a b) (0:Int)) (pY a b))))))))))))
def lu (e:aB) (a:Int) (f:aq) (g:((Option ai))):Option ((aB×aq×(Option ai)×Int) ⊕ (((Option ai)×aq) ⊕ (Bool))) :=
 ((gJ e).bind fun b=>((df g (IntKind.u64.wrap (IntKind.i64.wrap (a+(1:Int)))) b.1).bind fun c=>((dr f (IntKind.u64.wrap (IntKind.i64.wrap (a+(1:Int)))) b.1).bind fun d=>((mX c.1 d.1).bind fun h=>(bif (!h) then none else (some (Sum.inl (b.2,d.2,c.2,(IntKind.i64.wrap (a+(1:Int)))))))))))
def lm (e:Int) (s:(aB×aq×(Option ai)×Int)):Option ((aB×aq×(Option ai)×Int) ⊕ (((Option ai)×aq) ⊕ (Bool))) :=
 match s with | (f,c,a,b)=>(bif (decide (b<(25:Int))) then (ia (bif (b==(Int.tmod (IntKind.i64.wrap e) (25:Int))) then ((gX a).bind fun g=>((sY g).bind fun d=>(bif (d.2 !=(0:Int)) then none else (some (Sum.inl (some d.1)))))) else (some (Sum.inl a))) (lu f b c)) else (bG (some (Sum.inl (a,c)))))
def nJ (s:((Option ai)×aq)):Option (Bool) :=
 match s with | (a,b)=>((uc a b).bind fun c=>(some c))
def qq (a:(List Int)) (b:Int):Option (Bool) :=
 (oZ.bind fun c=>(bif (!c) then (oZ.bind fun d=>(some d)) else (bif (decide (((a).length:Int)>(500:Int))) then (oZ.bind fun e=>(some e)) else ((uQ (3:Int)).bind fun f=>((xk (3:Int)).bind fun g=>(ia (bA (lm b) (({L:=a,I:=(0:Int)}:aB),g,(some f),(0:Int))) (nJ)))))))
end
end Go.Proofs.YtgnkkopjkgdieaaGreat
