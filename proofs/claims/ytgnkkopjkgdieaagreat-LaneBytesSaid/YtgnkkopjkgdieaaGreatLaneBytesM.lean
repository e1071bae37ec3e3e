/- A part of the proof. -/
import Derived.Test.YtgnkkopjkgdieaaGreatLaneBytesGw
set_option linter.unusedVariables false
set_option linter.unusedSimpArgs false
set_option maxRecDepth 100000
set_option maxHeartbeats 4000000
namespace Go.Proofs.YtgnkkopjkgdieaaGreat
open Go Go.V
structure bf where
 ae : Int
 Index : Int
 Del : Bool
 Val : (List Int)
structure bW where
 eW : Int
 l : (List bf)
structure cn where
 rows : (List bW)
structure cy where
 ab : Int
 Seq : Int
structure aw where
 ID : cy
 ae : Int
 dO : (List Nat)
 aX : (List (Nat×Nat))
 dD : (List Nat)
 Data : (List Int)
structure bN where
 l : (List aw)
structure cC where
 Has : Bool
 Val : (List Int)
structure bP where
 At : Nat
 Val : (List Int)
structure bB where
 E : Int
 ae : Int
 Index : Int
 dT : (List cC)
 aX : (List (List bP))
structure aZ where
 cV : Int
 seq : Int
 r : bB
structure bE where
 l : (List aZ)
structure dV where
 ID : Int
 dn : Int
 To : Int
 Lo : Nat
 Hi : Nat
 Authority : Int
 cx : Int
structure dj where
 r : dV
 from_ : Int
 to_ : Int
structure cg where
 l : (List dj)
structure bK where
 At : Nat
 Del : Bool
 Val : (List Int)
structure dN where
 oD : Int
 cw : (List bK)
structure bI where
 ID : cy
 E : Int
 ae : Int
 Index : Int
 bY : Int
 dM : (List dN)
structure dw where
 To : Int
 N : Int
 ap : Int
 ae : Int
 W : bK
structure da where
 jW : Int
 cI : Int
 n : Int
structure ai where
 wide : Int
 cI : Int
 store : (Option cn)
 ft : (Option bN)
 last : (Option bE)
 book : (Option cg)
 open_ : (List bI)
 out : (List dw)
 used : (List da)
structure aG where
 Kind : Int
 ID : cy
 ae : Int
 Index : Int
 E : Int
 br : aw
 cw : (List bK)
 R : bB
 bY : Int
 dM : (List dN)
 ap : dV
 On : Bool
structure bU where
 Kind : Int
 ID : cy
 R : bB
structure aP where
 At : Nat
 ae : Int
 Index : Int
 Del : Bool
 Val : (List Int)
structure dg where
 ab : Int
 Seq : Int
 R : bB
structure dz where
 R : dV
 dn : Int
 To : Int
structure eO where
 ap : Int
 ae : Int
 N : Int
structure aq where
 zJ : Int
 ae : Int
 V : (List aP)
 H : (List aw)
 A : (List dg)
 B : (List dz)
 Open : (List bI)
 Out : (List dw)
 pT : (List eO)
structure aB where
 L : (List Int)
 I : Int
structure ao where
 p : (List Int)
structure ag where
 p : (List Int)
 bad : Bool
def ct:bB:={E:=(0:Int),ae:=(0:Int),Index:=(0:Int),dT:=[],aX:=[]}
def cE:bU:={Kind:=(0:Int),ID:=({ab:=(0:Int),Seq:=(0:Int)}:cy),R:=ct}
def dX:aw:={ID:=({ab:=(0:Int),Seq:=(0:Int)}:cy),ae:=(0:Int),dO:=[],aX:=[],dD:=[],Data:=[]}
def dY:dV:={ID:=(0:Int),dn:=(0:Int),To:=(0:Int),Lo:=(0:Nat),Hi:=(0:Nat),Authority:=(0:Int),cx:=(0:Int)}
noncomputable section
def uT:Option (cn) :=
 (some ({rows:=[]}:cn))
def tG:Option (bN) :=
 (some ({l:=[]}:bN))
def qG:Option (bE) :=
 (some ({l:=[]}:bE))
def sn:Option (cg) :=
 (some ({l:=[]}:cg))
def vd (a:Int):Option (ai) :=
 (uT.bind fun b=>(tG.bind fun c=>(qG.bind fun d=>(sn.bind fun e=>(some ({wide:=a,cI:=(1:Int),store:=(some b),ft:=(some c),last:=(some d),book:=(some e),open_:=[],out:=[],used:=[]}:ai))))))
def gH (b:bN) (c:Int) (a:(Int)):Option ((Int) ⊕ (Int)) :=
 (bif (decide (a<((b.l).length:Int))) then ((dC b.l a).bind fun d=>((some ()).bind fun _=>(bif (decide (d.ae≤c)) then (bG (some a)) else (some (Sum.inl (IntKind.i64.wrap (a+(1:Int)))))))) else (bG (some ((-1):Int))))
def fY (a:(Option bN)) (b:Int):Option (Bool) :=
 (match a with | none=>none | some c=>(((bA (gH c b) (0:Int)).bind fun d=>(some (decide (d≥(0:Int))))).bind fun e=>(some e)))
def ln (b:(Option ai)):Option (Bool) :=
 (match b with | none=>none | some a=>((fY a.ft a.cI).bind fun c=>(some (!c))))
def kl (b:(Option ai)) (c:aG):Option (bU×(Option ai)) :=
 (match b with | none=>none | some a=>(bif (c.ae !=a.cI) then (some (cE,(some a))) else ((ln (some a)).bind fun d=>(bif (!d) then (some (cE,(some a))) else (bif (decide ((IntKind.u64.wrap (a.cI+(1:Int)))>(9:Int))) then none else (some (({Kind:=(1:Int),ID:=({ab:=(0:Int),Seq:=(0:Int)}:cy),R:=ct}:bU),(some ({a with cI:=(IntKind.u64.wrap (a.cI+(1:Int)))}:ai)))))))))
def lf (a:Int):Option (Bool) :=
 (some (a !=a))
def eM (a b:Int):Option (Int) :=
 ((lf a).bind fun d=>((lf b).bind fun c=>(bif d then (bif c then (some (0:Int)) else (some ((-1):Int))) else (bif c then (some (1:Int)) else (bif (decide (a<b)) then (some ((-1):Int)) else (bif (decide (a>b)) then (some (1:Int)) else (some (0:Int))))))))
def om (b:(List Int)) (a:(Int)):Option ((Int) ⊕ (Int)) :=
 (bif (decide (a<((b).length:Int))) then ((dC b a).bind fun c=>(bif (c !=(0:Int)) then (bG (some c)) else (some (Sum.inl (IntKind.i64.wrap (a+(1:Int))))))) else (bG (some (0:Int))))
def se (a:(List Int)):Option (Int) :=
 (bA (om a) (0:Int))
def mB (a:aw) (b:cy):Option (Int) :=
 ((eM a.ID.ab b.ab).bind fun c=>((eM a.ID.Seq b.Seq).bind fun d=>((se ([c,d])).bind fun e=>(some e))))
def je (c:bN) (d:cy) (s:(Int×Int)):Option ((Int×Int) ⊕ (Int)) :=
 match s with | (b,a)=>(bif (decide (a<b)) then ((dC c.l (IntKind.i64.wrap (jq .u64 (IntKind.u64.wrap (IntKind.i64.wrap (a+b))) (1:Int)))).bind fun e=>((mB e d).bind fun f=>(bif (decide (f<(0:Int))) then (some (Sum.inl (b,(IntKind.i64.wrap ((IntKind.i64.wrap (jq .u64 (IntKind.u64.wrap (IntKind.i64.wrap (a+b))) (1:Int)))+(1:Int)))))) else (some (Sum.inl ((IntKind.i64.wrap (jq .u64 (IntKind.u64.wrap (IntKind.i64.wrap (a+b))) (1:Int))),a)))))) else (bG (some a)))
def mM (b:bN) (c:cy) (a:(Int)):Option (Int×Bool) :=
 (bif (decide (a<((b.l).length:Int))) then ((dC b.l a).bind fun d=>((mB d c).bind fun e=>(some (a,(e==(0:Int)))))) else (some (a,false)))
def iD (c:(Option bN)) (b:cy):Option (Int×Bool) :=
 (match c with | none=>none | some a=>((((bA (je a b) (((a.l).length:Int),(0:Int)))).bind (mM a b)).bind fun (d,e)=>(some (d,e))))
def jj (c:(Option bN)) (d:cy):Option (aw×Bool) :=
 (match c with | none=>none | some a=>((iD (some a) d).bind fun b=>(bif (!b.2) then (some (dX,false)) else ((dC a.l b.1).bind fun e=>(some (e,true))))))
def tP (a:Nat):Option (Bool) :=
 (some (fNe a a))
def dS (a:Nat):Option (Int) :=
 ((tP a).bind fun b=>(bif b then (some (18446744073709551615:Int)) else (bif ((jq .u64 (Int.ofNat a) (63:Int))==(1:Int)) then (some (Ez .u64 ((18446744073709551615):Int) (Int.ofNat a))) else (some (bOr .u64 (Int.ofNat a) (9223372036854775808:Int))))))
def kN (a b:Nat):Option (Bool) :=
 ((dS a).bind fun c=>((dS b).bind fun d=>(some (c==d))))
def rp (a b:(Nat×Nat)):Option (Bool) :=
 ((kN a.1 b.1).bind fun c=>(bif c then ((kN a.2 b.2).bind fun d=>(some d)) else (some false)))
def gM (b c:(List Int)) (a:(Int)):Option ((Int) ⊕ (Bool)) :=
 (bif (decide (a<((b).length:Int))) then ((dC b a).bind fun d=>((dC c a).bind fun e=>(bif (d !=e) then (bG (some false)) else (some (Sum.inl (IntKind.i64.wrap (a+(1:Int)))))))) else (bG (some true)))
def dU (a b:(List Int)):Option (Bool) :=
 (bif (((a).length:Int) !=((b).length:Int)) then (some false) else (bA (gM a b) (0:Int)))
def mG (b c:aw) (a:(Int)):Option ((Int) ⊕ (Bool)) :=
 (bif (decide (a<((b.dO).length:Int))) then ((dC b.dO a).bind fun d=>((dC c.dO a).bind fun e=>((kN d e).bind fun f=>(bif (!f) then (bG (some false)) else (some (Sum.inl (IntKind.i64.wrap (a+(1:Int))))))))) else (bG (some true)))
def mH (b c:aw) (a:(Int)):Option ((Int) ⊕ (Bool)) :=
 (bif (decide (a<((b.aX).length:Int))) then ((dC b.aX a).bind fun d=>((dC c.aX a).bind fun e=>((rp d e).bind fun f=>(bif (!f) then (bG (some false)) else (some (Sum.inl (IntKind.i64.wrap (a+(1:Int))))))))) else (bG (some true)))
def mI (b c:aw) (a:(Int)):Option ((Int) ⊕ (Bool)) :=
 (bif (decide (a<((b.dD).length:Int))) then ((dC b.dD a).bind fun d=>((dC c.dD a).bind fun e=>((kN d e).bind fun f=>(bif (!f) then (bG (some false)) else (some (Sum.inl (IntKind.i64.wrap (a+(1:Int))))))))) else (bG (some true)))
def rW (a b:aw):Option (Bool) :=
 (bif ((a.ID.ab==b.ID.ab)&&(a.ID.Seq==b.ID.Seq)) then (bif (a.ae==b.ae) then ((bif (((a.dO).length:Int) !=((b.dO).length:Int)) then (some false) else (bA (mG a b) (0:Int))).bind fun c=>(bif c then ((bif (((a.aX).length:Int) !=((b.aX).length:Int)) then (some false) else (bA (mH a b) (0:Int))).bind fun d=>(bif d then ((bif (((a.dD).length:Int) !=((b.dD).length:Int)) then (some false) else (bA (mI a b) (0:Int))).bind fun e=>(bif e then ((dU a.Data b.Data).bind fun f=>(some f)) else (some false))) else (some false))) else (some false))) else (some false)) else (some false))
def ov (a b c:Nat):Option (Bool) :=
 ((dS b).bind fun d=>((dS a).bind fun e=>(bif (decide (d≤e)) then ((dS a).bind fun f=>((dS c).bind fun g=>(some (decide (f≤g))))) else (some false))))
def lM (b:aw) (c d:Nat) (a:(Int)):Option ((Int) ⊕ (Int)) :=
 (bif (decide (a<((b.dD).length:Int))) then ((dC b.dD a).bind fun e=>(((ov e c d).bind fun f=>(some f)).bind fun g=>(bif g then (bG (some a)) else (some (Sum.inl (IntKind.i64.wrap (a+(1:Int)))))))) else (bG (some ((-1):Int))))
def re (a:aw) (b c:Nat):Option (Bool) :=
 (((bA (lM a b c) (0:Int)).bind fun d=>(some (decide (d≥(0:Int))))).bind fun e=>(some e))
def nl (b:aw) (c:Nat) (a:(Int)):Option ((Int) ⊕ (Int)) :=
 (bif (decide (a<((b.dO).length:Int))) then ((dC b.dO a).bind fun d=>(((kN c d).bind fun e=>(some e)).bind fun f=>(bif f then (bG (some a)) else (some (Sum.inl (IntKind.i64.wrap (a+(1:Int)))))))) else (bG (some ((-1):Int))))
def mW (b:aw) (d:Nat) (a:(Int)):Option ((Int) ⊕ (Int)) :=
 (bif (decide (a<((b.aX).length:Int))) then ((dC b.aX a).bind fun c=>(((ov d c.1 c.2).bind fun e=>(some e)).bind fun f=>(bif f then (bG (some a)) else (some (Sum.inl (IntKind.i64.wrap (a+(1:Int)))))))) else (bG (some ((-1):Int))))
def qM (a:aw) (b:Nat):Option (Bool) :=
 (((bA (nl a b) (0:Int)).bind fun c=>(some (decide (c≥(0:Int))))).bind fun d=>(bif d then (some true) else (((bA (mW a b) (0:Int)).bind fun e=>(some (decide (e≥(0:Int))))).bind fun f=>(some f))))
def oo (c d:aw) (a:(Int)):Option ((Int) ⊕ (Unit ⊕ (Bool))) :=
 (bif (decide (a<((c.dD).length:Int))) then ((dC c.dD a).bind fun b=>((re d b b).bind fun e=>(bif e then (bG (bG (some true))) else ((qM d b).bind fun f=>(bif f then (bG (bG (some true))) else (some (Sum.inl (IntKind.i64.wrap (a+(1:Int)))))))))) else (bG (some (Sum.inl ()))))
def oi (b c:aw) (a:(Int)):Option ((Int) ⊕ (Bool)) :=
 (bif (decide (a<((b.dD).length:Int))) then ((dC b.dD a).bind fun d=>((qM c d).bind fun e=>(bif e then (bG (some true)) else (some (Sum.inl (IntKind.i64.wrap (a+(1:Int)))))))) else (bG (some false)))
def qn (a b:aw) (c:Unit):Option (Bool) :=
 (bA (oi a b) (0:Int))
def ub (a b:aw):Option (Bool) :=
 (hQ (bA (oo a b) (0:Int)) (qn b a))
def fM (a:(List Nat)):Option ((List Nat)) :=
 gd (room ([]:(List Nat)) a) (some a)
def fX (a:(List (Nat×Nat))):Option ((List (Nat×Nat))) :=
 gd (room ([]:(List (Nat×Nat))) a) (some a)
def fe (a:(List Int)):Option ((List Int)) :=
 gd (room ([]:(List Int)) a) (some a)
def gj (a:(List aw)) (b:Int) (c:(List aw)):Option ((List aw)) :=
 gd (tk a b c) (some (ins a b c))
def jg (b:bN) (c:aw) (a:(Int)):Option ((Int) ⊕ (Unit ⊕ (Int×(Option bN)))) :=
 (bif (decide (a<((b.l).length:Int))) then ((dC b.l a).bind fun d=>(bif (!((d.ID.ab==c.ID.ab)&&(d.ID.Seq==c.ID.Seq))) then ((ub d c).bind fun e=>(bif e then (bG (bG (some ((8:Int),(some b))))) else (some (Sum.inl (IntKind.i64.wrap (a+(1:Int))))))) else (some (Sum.inl (IntKind.i64.wrap (a+(1:Int))))))) else (bG (some (Sum.inl ()))))
def kD (a:aw) (b:bN) (i:Unit):Option (Int×(Option bN)) :=
 ((fM a.dO).bind fun d=>((fX a.aX).bind fun e=>((fM a.dD).bind fun f=>((fe a.Data).bind fun g=>((iD (some b) a.ID).bind fun c=>(bif c.2 then ((dC b.l c.1).bind fun j=>(some ((0:Int),(some ({l:=(b.l.set c.1.toNat ({a with dO:=d,aX:=e,dD:=f,Data:=g}:aw))}:bN))))) else ((gj b.l c.1 ([({a with dO:=d,aX:=e,dD:=f,Data:=g}:aw)])).bind fun h=>(some ((0:Int),(some ({l:=h}:bN)))))))))))
def jv (c:(Option bN)) (a:aw):Option (Int×(Option bN)) :=
 (match c with | none=>none | some b=>(hQ (bA (jg b a) (0:Int)) (kD a b)))
def fF (a:ai) (c:aw) (d:Unit):Option (Int×(Option ai)) :=
 ((jv a.ft c).bind fun b=>(some (b.1,(some ({a with ft:=b.2}:ai)))))
def qt (b:aw) (a:ai) (s:(Int×Int×Int×(List Nat)×(List (Nat×Nat))×(List Nat)×(List Int)×Bool)):Option (Int×(Option ai)) :=
 match s with | (d,e,c,f,g,h,i,j)=>(hQ (bif j then ((rW ({ID:=({ab:=d,Seq:=e}:cy),ae:=c,dO:=f,aX:=g,dD:=h,Data:=i}:aw) b).bind fun k=>(bif k then (bG (some ((0:Int),(some a)))) else (bif (decide (b.ID.ab<(9223372036854775808:Int))) then (bG (some ((8:Int),(some a)))) else (bif (decide (b.ae≤c)) then (bG (some ((8:Int),(some a)))) else (some (Sum.inl ())))))) else (bif (b.ae !=a.cI) then (bG (some ((9:Int),(some a)))) else (some (Sum.inl ())))) (fF a b))
def lO (d:(Option ai)) (b:aw):Option (Int×(Option ai)) :=
 (match d with | none=>none | some c=>((((jj c.ft b.ID).bind fun a=>(some (a.1.ID.ab,a.1.ID.Seq,a.1.ae,a.1.dO,a.1.aX,a.1.dD,a.1.Data,a.2)))).bind (qt b c)))
def jG (c:cn) (d:Int) (s:(Int×Int)):Option ((Int×Int) ⊕ (Int)) :=
 match s with | (a,b)=>(bif (decide (a<b)) then (((dC c.rows (IntKind.i64.wrap (jq .u64 (IntKind.u64.wrap (IntKind.i64.wrap (a+b))) (1:Int)))).bind fun e=>(some (decide (e.eW≥d)))).bind fun f=>(bif (!f) then (some (Sum.inl ((IntKind.i64.wrap ((IntKind.i64.wrap (jq .u64 (IntKind.u64.wrap (IntKind.i64.wrap (a+b))) (1:Int)))+(1:Int))),b))) else (some (Sum.inl (a,(IntKind.i64.wrap (jq .u64 (IntKind.u64.wrap (IntKind.i64.wrap (a+b))) (1:Int)))))))) else (bG (some a)))
def jh (d:(Option cn)) (c:Int):Option (Int×Bool) :=
 (match d with | none=>none | some a=>((bA (jG a c) ((0:Int),((a.rows).length:Int))).bind fun b=>(bif (decide (b<((a.rows).length:Int))) then ((dC a.rows b).bind fun e=>(some (b,(e.eW==c)))) else (some (b,false)))))
def tC (c:(List bf)) (d:Int) (s:(Int×Int)):Option ((Int×Int) ⊕ (Int)) :=
 match s with | (a,b)=>(bif (decide (a<b)) then (((dC c (IntKind.i64.wrap (jq .u64 (IntKind.u64.wrap (IntKind.i64.wrap (a+b))) (1:Int)))).bind fun e=>(some (decide (e.ae>d)))).bind fun f=>(bif (!f) then (some (Sum.inl ((IntKind.i64.wrap ((IntKind.i64.wrap (jq .u64 (IntKind.u64.wrap (IntKind.i64.wrap (a+b))) (1:Int)))+(1:Int))),b))) else (some (Sum.inl (a,(IntKind.i64.wrap (jq .u64 (IntKind.u64.wrap (IntKind.i64.wrap (a+b))) (1:Int)))))))) else (bG (some a)))
def rT (a:(List bf)) (d:Int):Option (cC) :=
 ((bA (tC a d) ((0:Int),((a).length:Int))).bind fun b=>(bif (b==(0:Int)) then (some ({Has:=false,Val:=[]}:cC)) else ((dC a (IntKind.i64.wrap (b - (1:Int)))).bind fun c=>(bif c.Del then (some ({Has:=false,Val:=[]}:cC)) else ((fe c.Val).bind fun e=>(some ({Has:=true,Val:=e}:cC)))))))
def fx (c:(Option cn)) (d:Nat) (e:Int):Option (cC) :=
 (match c with | none=>none | some a=>((dS d).bind fun f=>((jh (some a) f).bind fun b=>(bif (!b.2) then (some ({Has:=false,Val:=[]}:cC)) else ((dC a.rows b.1).bind fun g=>((rT g.l e).bind fun h=>(some h)))))))
def eP (a:Int):Option (Nat) :=
 (bif ((jq .u64 a (63:Int))==(1:Int)) then (some (Int.toNat (yQ .u64 a (9223372036854775808:Int)))) else (some (Int.toNat (Ez .u64 ((18446744073709551615):Int) a))))
def jJ (e:cn) (g:Nat) (h i:Int) (s:((List bP)×Int)):Option (((List bP)×Int) ⊕ ((List bP))) :=
 match s with | (a,b)=>(bif (decide (b<((e.rows).length:Int))) then ((dC e.rows b).bind fun c=>((dS g).bind fun j=>(bif (decide (c.eW≤j)) then (bif (decide (((a).length:Int)<h)) then ((rT c.l i).bind fun d=>(bif d.Has then ((eP c.eW).bind fun f=>(gd (room a ([({At:=f,Val:=d.Val}:bP)])) (some (Sum.inl ((a++([({At:=f,Val:=d.Val}:bP)])),(IntKind.i64.wrap (b+(1:Int)))))))) else (some (Sum.inl (a,(IntKind.i64.wrap (b+(1:Int)))))))) else (bG (some a))) else (bG (some a))))) else (bG (some a)))
def ib (b:(Option cn)) (c d:Nat) (e f:Int):Option ((List bP)) :=
 (match b with | none=>none | some a=>((dS c).bind fun g=>((jh (some a) g).bind fun h=>(bA (jJ a d f e) ([],h.1)))))
def jx (c:aw) (e:ai) (s:((List cC)×Int)):Option (((List cC)×Int) ⊕ ((List cC))) :=
 match s with | (a,b)=>(bif (decide (b<((c.dO).length:Int))) then ((dC c.dO b).bind fun f=>((fx e.store f (18446744073709551615:Int)).bind fun d=>(gd (room a ([d])) (some (Sum.inl ((a++([d])),(IntKind.i64.wrap (b+(1:Int))))))))) else (bG (some a)))
def il (c:aw) (f:ai) (g:(List cC)) (s:((List (List bP))×Int)):Option (((List (List bP))×Int) ⊕ (bB)) :=
 match s with | (a,b)=>(bif (decide (b<((c.aX).length:Int))) then ((dC c.aX b).bind fun d=>((ib f.store d.1 d.2 (18446744073709551615:Int) (64:Int)).bind fun e=>(gd (room a ([e])) (some (Sum.inl ((a++([e])),(IntKind.i64.wrap (b+(1:Int))))))))) else (bG (some ({E:=(0:Int),ae:=(0:Int),Index:=(0:Int),dT:=g,aX:=a}:bB))))
def nz (a:aw) (b:ai) (c:((List cC))):Option (bB) :=
 (bA (il a b c) ([],(0:Int)))
def lN (c:(Option ai)) (a:aw):Option (bB) :=
 (match c with | none=>none | some b=>(((bA (jx a b) ([],(0:Int)))).bind (nz a b)))
def lv (c:(Option ai)) (b:aG):Option (bU×(Option ai)) :=
 ((lO c b.br).bind fun a=>(bif (a.1==(0:Int)) then ((lN a.2 b.br).bind fun d=>(some (({Kind:=(2:Int),ID:=b.br.ID,R:=d}:bU),a.2))) else (some (({Kind:=(2:Int),ID:=b.br.ID,R:=({E:=a.1,ae:=(0:Int),Index:=(0:Int),dT:=[],aX:=[]}:bB)}:bU),a.2))))
def gq (a:(List aw)) (b c:Int):Option ((List aw)) :=
 gd (fits a b c) (some (del a b c))
def kW (c:(Option bN)) (d:cy):Option (Bool×(Option bN)) :=
 (match c with | none=>none | some b=>((iD (some b) d).bind fun a=>(bif a.2 then ((gq b.l a.1 (IntKind.i64.wrap (a.1+(1:Int)))).bind fun e=>(some (a.2,(some ({l:=e}:bN))))) else (some (a.2,(some b))))))
def hZ (a:(List (List Value))) (b:Int) (c:(List (List Value))):Option ((List (List Value))) :=
 gd (tk a b c) (some (ins a b c))
def gn (a:(List bW)) (b:Int) (c:(List bW)):Option ((List bW)) :=
 gd (tk a b c) (some (ins a b c))
def rY (a:bf) (b c:Int):Option (Bool) :=
 (bif (decide (a.ae<b)) then (some true) else (bif (a.ae==b) then (some (decide (a.Index<c))) else (some false)))
def fc (a:(List bf)) (b:Int) (c:(List bf)):Option ((List bf)) :=
 gd (tk a b c) (some (ins a b c))
def kb (d:bW) (c:bf) (s:(Int×Int)):Option ((Int×Int) ⊕ (Int)) :=
 match s with | (a,b)=>(bif (decide (a<b)) then (((dC d.l (IntKind.i64.wrap (jq .u64 (IntKind.u64.wrap (IntKind.i64.wrap (a+b))) (1:Int)))).bind fun e=>((rY e c.ae c.Index).bind fun f=>(some (!f)))).bind fun g=>(bif (!g) then (some (Sum.inl ((IntKind.i64.wrap ((IntKind.i64.wrap (jq .u64 (IntKind.u64.wrap (IntKind.i64.wrap (a+b))) (1:Int)))+(1:Int))),b))) else (some (Sum.inl (a,(IntKind.i64.wrap (jq .u64 (IntKind.u64.wrap (IntKind.i64.wrap (a+b))) (1:Int)))))))) else (bG (some a)))
def mf (b:bW) (c:Int) (a:bf) (d:(List Int)) (e:cn) (f:(Int×Bool)) (h:Unit):Option ((Option cn)) :=
 ((fc b.l c ([({a with Val:=d}:bf)])).bind fun g=>(some (some ({rows:=(e.rows.set f.1.toNat ({eW:=b.eW,l:=g}:bW))}:cn))))
def mA (d:(Int×Bool)) (a:bf) (f:(List Int)) (e:(cn)):Option ((Option cn)) :=
 ((dC e.rows d.1).bind fun b=>((bA (kb b a) ((0:Int),((b.l).length:Int))).bind fun c=>(hQ (bif (decide (c<((b.l).length:Int))) then ((dC b.l c).bind fun g=>(bif (g.ae==a.ae) then (bif (g.Index==a.Index) then (bG (some (some ({rows:=(e.rows.set d.1.toNat ({eW:=b.eW,l:=(b.l.set c.toNat ({a with Val:=f}:bf))}:bW))}:cn)))) else (some (Sum.inl ()))) else (some (Sum.inl ())))) else (some (Sum.inl ()))) (mf b c a f e d))))
def oy (c:Nat) (a:cn) (d:bf) (e:((List Int))):Option ((Option cn)) :=
 ((dS c).bind fun f=>((jh (some a) f).bind fun b=>(((bif (!b.2) then ((dS c).bind fun g=>((gn a.rows b.1 ([({eW:=g,l:=[]}:bW)])).bind fun h=>(some ({rows:=h}:cn)))) else (some a))).bind (mA b d e))))
def jO (b:(Option cn)) (c:Nat) (a:bf):Option ((Option cn)) :=
 (match b with | none=>none | some d=>((fe a.Val).bind fun e=>(((bif a.Del then (some ([])) else (some e))).bind (oy c d a))))
def gD (b:aG) (s:(ai×Int)):Option ((ai×Int) ⊕ (ai)) :=
 match s with | (a,c)=>(bif (decide (c<((b.cw).length:Int))) then ((dC b.cw c).bind fun d=>((jO a.store d.At ({b with Del:=d.Del,Val:=d.Val}:bf)).bind fun e=>(some (Sum.inl (({a with store:=e}:ai),(IntKind.i64.wrap (c+(1:Int)))))))) else (bG (some a)))
def oT (a:aG) (b:(ai)):Option (bU×(Option ai)) :=
 (some (({Kind:=(3:Int),ID:=a.ID,R:=ct}:bU),(some b)))
def ke (d:(Option ai)) (b:aG):Option (bU×(Option ai)) :=
 (match d with | none=>none | some a=>((((kW a.ft b.ID).bind fun c=>(bif c.1 then (bif (b.E==(0:Int)) then (bA (gD b) (({a with ft:=c.2}:ai),(0:Int))) else (some ({a with ft:=c.2}:ai))) else (some ({a with ft:=c.2}:ai))))).bind (oT b)))
def iJ (a:aZ) (b:Int):Option (Int) :=
 ((eM a.cV b).bind fun c=>(some c))
def hH (c:bE) (d:Int) (s:(Int×Int)):Option ((Int×Int) ⊕ (Int)) :=
 match s with | (b,a)=>(bif (decide (a<b)) then ((dC c.l (IntKind.i64.wrap (jq .u64 (IntKind.u64.wrap (IntKind.i64.wrap (a+b))) (1:Int)))).bind fun e=>((iJ e d).bind fun f=>(bif (decide (f<(0:Int))) then (some (Sum.inl (b,(IntKind.i64.wrap ((IntKind.i64.wrap (jq .u64 (IntKind.u64.wrap (IntKind.i64.wrap (a+b))) (1:Int)))+(1:Int)))))) else (some (Sum.inl ((IntKind.i64.wrap (jq .u64 (IntKind.u64.wrap (IntKind.i64.wrap (a+b))) (1:Int))),a)))))) else (bG (some a)))
def lI (b:bE) (c:Int) (a:(Int)):Option (Int×Bool) :=
 (bif (decide (a<((b.l).length:Int))) then ((dC b.l a).bind fun d=>((iJ d c).bind fun e=>(some (a,(e==(0:Int)))))) else (some (a,false)))
def gy (c:(Option bE)) (b:Int):Option (Int×Bool) :=
 (match c with | none=>none | some a=>((((bA (hH a b) (((a.l).length:Int),(0:Int)))).bind (lI a b)).bind fun (d,e)=>(some (d,e))))
def fj (a:(List aZ)) (b:Int) (c:(List aZ)):Option ((List aZ)) :=
 gd (tk a b c) (some (ins a b c))
def jN (b:(Int×Bool)) (c:Int) (e:bB) (d:(bE)):Option (Int×(Option bE)) :=
 ((dC d.l b.1).bind fun a=>(some ((0:Int),(some ({l:=((d.l.set b.1.toNat ({a with seq:=c}:aZ)).set b.1.toNat ({cV:=({a with seq:=c}:aZ).cV,seq:=({a with seq:=c}:aZ).seq,r:=e}:aZ))}:bE)))))
def jS (a:(Int×Bool)) (b:bE) (c d:Int) (e:bB) (g:Unit):Option (Int×(Option bE)) :=
 (((bif (!a.2) then ((fj b.l a.1 ([({cV:=c,seq:=(0:Int),r:=ct}:aZ)])).bind fun f=>(some ({l:=f}:bE))) else (some b))).bind (jN a d e))
def gX (e:(Option bE)) (d b:Int) (f:bB):Option (Int×(Option bE)) :=
 (match e with | none=>none | some a=>(bif (b==(0:Int)) then (some ((1:Int),(some a))) else ((gy (some a) d).bind fun c=>(hQ (bif c.2 then ((dC a.l c.1).bind fun g=>(bif (decide (g.seq≥b)) then (bG (some ((10:Int),(some a)))) else (some (Sum.inl ())))) else (some (Sum.inl ()))) (jS c a d b f)))))
def fH (c:(Option bE)) (d:Int):Option (Int) :=
 (match c with | none=>none | some a=>((gy (some a) d).bind fun b=>(bif (!b.2) then (some (0:Int)) else ((dC a.l b.1).bind fun e=>(some e.seq)))))
def kz (b:(Option ai)) (a:cy):Option (bU) :=
 (match b with | none=>none | some c=>((fH c.last a.ab).bind fun d=>(bif (decide (d≤a.Seq)) then (some cE) else (some ({Kind:=(4:Int),ID:=a,R:=({E:=(10:Int),ae:=(0:Int),Index:=(0:Int),dT:=[],aX:=[]}:bB)}:bU)))))
def fw (a:(List dN)):Option ((List dN)) :=
 gd (room ([]:(List dN)) a) (some a)
def jZ (a:bI) (b:cy):Option (Int) :=
 ((eM a.ID.ab b.ab).bind fun c=>((eM a.ID.Seq b.Seq).bind fun d=>((se ([c,d])).bind fun e=>(some e))))
def jH (c:ai) (d:cy) (s:(Int×Int)):Option ((Int×Int) ⊕ (Int)) :=
 match s with | (b,a)=>(bif (decide (a<b)) then ((dC c.open_ (IntKind.i64.wrap (jq .u64 (IntKind.u64.wrap (IntKind.i64.wrap (a+b))) (1:Int)))).bind fun e=>((jZ e d).bind fun f=>(bif (decide (f<(0:Int))) then (some (Sum.inl (b,(IntKind.i64.wrap ((IntKind.i64.wrap (jq .u64 (IntKind.u64.wrap (IntKind.i64.wrap (a+b))) (1:Int)))+(1:Int)))))) else (some (Sum.inl ((IntKind.i64.wrap (jq .u64 (IntKind.u64.wrap (IntKind.i64.wrap (a+b))) (1:Int))),a)))))) else (bG (some a)))
def nv (b:ai) (c:cy) (a:(Int)):Option (Int×Bool) :=
 (bif (decide (a<((b.open_).length:Int))) then ((dC b.open_ a).bind fun d=>((jZ d c).bind fun e=>(some (a,(e==(0:Int)))))) else (some (a,false)))
def jl (c:(Option ai)) (b:cy):Option (Int×Bool) :=
 (match c with | none=>none | some a=>((((bA (jH a b) (((a.open_).length:Int),(0:Int)))).bind (nv a b)).bind fun (d,e)=>(some (d,e))))
def eE (a:(List bI)) (b:Int) (c:(List bI)):Option ((List bI)) :=
 gd (tk a b c) (some (ins a b c))
def mn (a:ai) (b:(Int×(Option bE))) (c:aG) (d e:Int) (f:((List dN))):Option (ai) :=
 ((jl (some ({a with last:=b.2}:ai)) c.ID).bind fun g=>((eE (({a with last:=b.2}:ai).open_) g.1 ([({c with E:=d,Index:=e,dM:=f}:bI)])).bind fun h=>(some ({wide:=({a with last:=b.2}:ai).wide,cI:=({a with last:=b.2}:ai).cI,store:=({a with last:=b.2}:ai).store,ft:=({a with last:=b.2}:ai).ft,last:=({a with last:=b.2}:ai).last,book:=({a with last:=b.2}:ai).book,open_:=h,out:=({a with last:=b.2}:ai).out,used:=({a with last:=b.2}:ai).used}:ai))))
def lS (a:aG) (b c:Int) (d:(List cC)) (e:(List (List bP))) (f:(ai)):Option (bU×(Option ai)) :=
 (some (({Kind:=(4:Int),ID:=a.ID,R:=({E:=b,ae:=a.ae,Index:=c,dT:=d,aX:=e}:bB)}:bU),(some f)))
def mw (a:ai) (b:aG) (d e:Int) (f:(List cC)) (g:(List (List bP))) (j:Unit):Option (bU×(Option ai)) :=
 ((gX a.last b.ID.ab b.ID.Seq ({E:=d,ae:=b.ae,Index:=e,dT:=f,aX:=g}:bB)).bind fun c=>(bif (c.1 !=(0:Int)) then ((kz (some ({a with last:=c.2}:ai)) b.ID).bind fun h=>(some (h,(some ({a with last:=c.2}:ai))))) else (((bif (b.bY !=(0:Int)) then (((bif (d==(0:Int)) then ((fw b.dM).bind fun i=>(some i)) else (some ([])))).bind (mn a c b d e)) else (some ({a with last:=c.2}:ai)))).bind (lS b d e f g))))
def jT (a:aG) (b:ai) (d:Int) (s:(Int×(List cC)×(List (List bP)))):Option (bU×(Option ai)) :=
 match s with | (c,e,f)=>(hQ (bif (c !=(0:Int)) then (bif (decide (a.ID.ab≥(9223372036854775808:Int))) then (bG (some (cE,(some b)))) else (some (Sum.inl ()))) else (some (Sum.inl ()))) (mw b a c d e f))
def iX (c:(Option ai)) (d:Int) (a:aG):Option (bU×(Option ai)) :=
 (match c with | none=>none | some b=>(((bif (a.R.E==(0:Int)) then (bif (a.ae !=b.cI) then (some ((9:Int),[],[])) else (some (a.R.E,a.R.dT,a.R.aX))) else (some (a.R.E,a.R.dT,a.R.aX)))).bind (jT a b d)))
def eD (a:(List bI)) (b c:Int):Option ((List bI)) :=
 gd (fits a b c) (some (del a b c))
def gY (f:cg) (g e:Int) (s:(cg×Int×Bool)):Option ((cg×Int×Bool) ⊕ (Bool×(Option cg))) :=
 match s with | (b,a,d)=>(bif (decide (a<((f.l).length:Int))) then ((dC b.l a).bind fun c=>(bif (c.r.ID==g) then (bif (c.to_==(0:Int)) then (some (Sum.inl (({l:=(b.l.set a.toNat ({c with to_:=(if (1:Int)>e then (1:Int) else e)}:dj))}:cg),(IntKind.i64.wrap (a+(1:Int))),true))) else (some (Sum.inl (b,(IntKind.i64.wrap (a+(1:Int))),d)))) else (some (Sum.inl (b,(IntKind.i64.wrap (a+(1:Int))),d))))) else (bG (some (d,(some b)))))
def gF (b:(Option cg)) (c d:Int):Option (Bool×(Option cg)) :=
 (match b with | none=>none | some a=>(bA (gY a c d) (a,(0:Int),false)))
def iZ (d:(Option cg)) (a:dV) (b:Int):Option ((Option cg)) :=
 (match d with | none=>none | some e=>((gF (some e) a.ID b).bind fun f=>(match f.2 with | none=>none | some c=>(gd (room c.l ([({r:=a,from_:=b,to_:=(0:Int)}:dj)])) (some (some ({l:=(c.l++([({r:=a,from_:=b,to_:=(0:Int)}:dj)]))}:cg)))))))
def kh (a:da) (b:Int):Option (Int) :=
 ((eM a.jW b).bind fun c=>(some c))
def fa (a:(List da)) (b:Int) (c:(List da)):Option ((List da)) :=
 gd (tk a b c) (some (ins a b c))
def uo (a:bK) (b:((List Int))):Option (bK) :=
 (some ({a with Val:=b}:bK))
def wR (b:bK) (a:Int):Option (bK) :=
 (gd (HV (if (0:Int)>a then (0:Int) else a) (if (0:Int)>a then (0:Int) else a)) (((bif b.Del then (some ([])) else (some (cpy (List.replicate (Int.toNat (if (0:Int)>a then (0:Int) else a)) (0:Int)) b.Val)))).bind (uo b)))
def iw (c:ai) (d:aG) (s:(Int×Int)):Option ((Int×Int) ⊕ (Int)) :=
 match s with | (b,a)=>(bif (decide (a<b)) then ((dC c.used (IntKind.i64.wrap (jq .u64 (IntKind.u64.wrap (IntKind.i64.wrap (a+b))) (1:Int)))).bind fun e=>((kh e d.ap.ID).bind fun f=>(bif (decide (f<(0:Int))) then (some (Sum.inl (b,(IntKind.i64.wrap ((IntKind.i64.wrap (jq .u64 (IntKind.u64.wrap (IntKind.i64.wrap (a+b))) (1:Int)))+(1:Int)))))) else (some (Sum.inl ((IntKind.i64.wrap (jq .u64 (IntKind.u64.wrap (IntKind.i64.wrap (a+b))) (1:Int))),a)))))) else (bG (some a)))
def lq (b:ai) (c:aG) (a:(Int)):Option (Int×Bool) :=
 (bif (decide (a<((b.used).length:Int))) then ((dC b.used a).bind fun d=>((kh d c.ap.ID).bind fun e=>(some (a,(e==(0:Int)))))) else (some (a,false)))
def jD (d:ai) (e:aG) (s:(Int×(List dw))):Option ((Int×(List dw)) ⊕ ((List dw))) :=
 match s with | (a,b)=>(bif (decide (a<((d.out).length:Int))) then ((dC d.out a).bind fun c=>(bif (c.To==e.ap.To) then (gd (room b ([c])) (some (Sum.inl ((IntKind.i64.wrap (a+(1:Int))),(b++([c])))))) else (some (Sum.inl ((IntKind.i64.wrap (a+(1:Int))),b))))) else (bG (some b)))
def nE (d:Int) (b:aG) (g:Int) (a:(ai)):Option (ai) :=
 ((dC a.used d).bind fun c=>((dC b.cw (0:Int)).bind fun h=>((bA (jD a b) ((0:Int),[])).bind fun e=>((wR h a.wide).bind fun f=>(gd (room a.out ([({To:=b.ap.To,N:=(IntKind.u64.wrap (IntKind.i64.wrap (((e).length:Int)+(1:Int)))),ap:=b.ap.ID,ae:=b.ae,W:=f}:dw)])) (some ({a with out:=(a.out++([({To:=b.ap.To,N:=(IntKind.u64.wrap (IntKind.i64.wrap (((e).length:Int)+(1:Int)))),ap:=b.ap.ID,ae:=b.ae,W:=f}:dw)])),used:=((a.used.set d.toNat ({c with cI:=b.ae}:da)).set d.toNat ({jW:=({c with cI:=b.ae}:da).jW,cI:=({c with cI:=b.ae}:da).cI,n:=(IntKind.i64.wrap (g+(1:Int)))}:da))}:ai)))))))
def nA (a:aG) (b c:Int) (d:(ai)):Option (bU×(Option ai)) :=
 (some (({Kind:=(4:Int),ID:=a.ID,R:=({E:=b,ae:=a.ae,Index:=c,dT:=[],aX:=[]}:bB)}:bU),(some d)))
def lj (a:ai) (b:aG) (e:Int) (g:Bool) (f h:Int) (d:(Int)):Option (bU×(Option ai)) :=
 ((gX a.last b.ID.ab b.ID.Seq ({E:=d,ae:=b.ae,Index:=e,dT:=[],aX:=[]}:bB)).bind fun c=>(bif (c.1 !=(0:Int)) then ((kz (some ({a with last:=c.2}:ai)) b.ID).bind fun i=>(some (i,(some ({a with last:=c.2}:ai))))) else (((bif (d==(0:Int)) then (((bif (!g) then ((fa a.used f ([({jW:=b.ap.ID,cI:=(0:Int),n:=(0:Int)}:da)])).bind fun j=>(some ({a with last:=c.2,used:=j}:ai))) else (some ({a with last:=c.2}:ai)))).bind (nE f b h)) else (some ({a with last:=c.2}:ai)))).bind (nA b d e))))
def nw (a:aG) (b:ai) (d:Int) (e:Bool) (f:Int) (c:(Int)):Option (bU×(Option ai)) :=
 (((bif (a.R.E !=(0:Int)) then (some a.R.E) else (bif (a.ae !=b.cI) then (some (9:Int)) else (bif (((a.cw).length:Int) !=(1:Int)) then (some (1:Int)) else (bif (decide (c≥a.ap.cx)) then (some (13:Int)) else (some a.R.E)))))).bind (lj b a d e f c))
def km (f:(Option ai)) (g:Int) (b:aG):Option (bU×(Option ai)) :=
 (match f with | none=>none | some a=>((((bA (iw a b) (((a.used).length:Int),(0:Int)))).bind (lq a b)).bind fun (c,d)=>(((bif d then ((dC a.used c).bind fun e=>(bif (e.cI==b.ae) then (some e.n) else (some (0:Int)))) else (some (0:Int)))).bind (nw b a g d c))))
def df (j:(Option ai)) (d:Int) (b:aG):Option (bU×(Option ai)) :=
 (match j with | none=>none | some a=>(bif (b.Kind==(1:Int)) then ((kl (some a) b).bind fun e=>(match e.2 with | none=>none | some k=>(some (e.1,(some k))))) else (bif (b.Kind==(2:Int)) then ((lv (some a) b).bind fun f=>(match f.2 with | none=>none | some l=>(some (f.1,(some l))))) else (bif (b.Kind==(3:Int)) then ((ke (some a) b).bind fun g=>(match g.2 with | none=>none | some m=>(some (g.1,(some m))))) else (bif (b.Kind==(4:Int)) then ((iX (some a) d b).bind fun h=>(match h.2 with | none=>none | some n=>(some (h.1,(some n))))) else (bif (b.Kind==(5:Int)) then ((jl (some a) b.ID).bind fun c=>(bif c.2 then ((eD a.open_ c.1 (IntKind.i64.wrap (c.1+(1:Int)))).bind fun o=>(some (cE,(some ({a with open_:=o}:ai))))) else (some (cE,(some a))))) else (bif (b.Kind==(6:Int)) then (bif b.On then ((iZ a.book b.ap a.cI).bind fun p=>(some (cE,(some ({a with book:=p}:ai))))) else ((gF a.book b.ap.ID a.cI).bind fun q=>(some (cE,(some ({a with book:=q.2}:ai)))))) else (bif (b.Kind==(7:Int)) then ((km (some a) d b).bind fun i=>(match i.2 with | none=>none | some s=>(some (i.1,(some s))))) else (some (cE,(some a)))))))))))
def kX (a:(Option ai)):Option (Int) :=
 (match a with | none=>none | some b=>(some b.cI))
def oZ:Option (Bool) :=
 ((vd (4:Int)).bind fun b=>((df (some b) (1:Int) ({Kind:=(1:Int),ID:=({ab:=(0:Int),Seq:=(0:Int)}:cy),ae:=(1:Int),Index:=(0:Int),E:=(0:Int),br:=dX,cw:=[],R:=ct,bY:=(0:Int),dM:=[],ap:=dY,On:=false}:aG)).bind fun a=>(match a.2 with | none=>none | some c=>(bif (a.1.Kind==(1:Int)) then ((kX (some c)).bind fun d=>(bif (d==(2:Int)) then (some true) else none)) else none))))
def xm (a:Int):Option (aq) :=
 (some ({zJ:=a,ae:=(1:Int),V:=[],H:=[],A:=[],B:=[],Open:=[],Out:=[],pT:=[]}:aq))
def jz (a:ao) (b:(List Int)):Option (ao) :=
 (gd (room a.p b) (some ({p:=(a.p++b)}:ao)))
def jf (c d:Int) (s:(ao×Int)):Option ((ao×Int) ⊕ (ao)) :=
 match s with | (b,a)=>(bif (decide (a<c)) then (gd (decide ((0:Int)≤(IntKind.i64.wrap ((8:Int)*a)))) ((jz b ([(IntKind.u8.wrap (jq .u64 d (IntKind.i64.wrap ((8:Int)*a))))])).bind fun e=>(some (Sum.inl (e,(IntKind.i64.wrap (a+(1:Int)))))))) else (bG (some b)))
def ax (a:ao) (b c:Int):Option (ao) :=
 (bA (jf c b) (a,(0:Int)))
def pg (a:(Option cn)):Option (Int) :=
 (match a with | none=>none | some b=>(some ((b.rows).length:Int)))
def iW (a:ao) (b:Bool):Option (ao) :=
 (bif b then ((ax a (1:Int) (1:Int)).bind fun c=>(some c)) else ((ax a (0:Int) (1:Int)).bind fun d=>(some d)))
def en (b:ao) (a:(List Int)):Option (ao) :=
 ((ax b (IntKind.u64.wrap ((a).length:Int)) (4:Int)).bind fun c=>((jz c a).bind fun d=>(some d)))
def dE (a:ao):Option ((List Int)) :=
 (some a.p)
def iA (c:bW) (e:Int) (s:(ao×Int)):Option ((ao×Int) ⊕ ((ao×Int) ⊕ ((List Int)))) :=
 match s with | (d,b)=>(bif (decide (b<((c.l).length:Int))) then ((dC c.l b).bind fun a=>((ax d a.ae (8:Int)).bind fun f=>((ax f a.Index (8:Int)).bind fun g=>((iW g a.Del).bind fun h=>((en h a.Val).bind fun i=>(some (Sum.inl (i,(IntKind.i64.wrap (b+(1:Int))))))))))) else (bG (some (Sum.inl (d,(IntKind.i64.wrap (e+(1:Int))))))))
def jU (c:cn) (s:(ao×Int)):Option ((ao×Int) ⊕ ((List Int))) :=
 match s with | (d,a)=>(bif (decide (a<((c.rows).length:Int))) then ((dC c.rows a).bind fun b=>((ax d b.eW (8:Int)).bind fun e=>((ax e (IntKind.u64.wrap ((b.l).length:Int)) (4:Int)).bind fun f=>(bA (iA b a) (f,(0:Int)))))) else (bG ((dE d).bind fun g=>(some g))))
def ki (b:(Option cn)):Option ((List Int)) :=
 (match b with | none=>none | some a=>((pg (some a)).bind fun c=>((ax ({p:=[]}:ao) (IntKind.u64.wrap c) (4:Int)).bind fun d=>(bA (jU a) (d,(0:Int))))))
def jk (a:(Option bN)):Option (Int) :=
 (match a with | none=>none | some b=>(some ((b.l).length:Int)))
def vK (b:aw) (s:(ao×Int)):Option ((ao×Int) ⊕ (ao)) :=
 match s with | (c,a)=>(bif (decide (a<((b.dO).length:Int))) then ((dC b.dO a).bind fun d=>((dS d).bind fun e=>((ax c e (8:Int)).bind fun f=>(some (Sum.inl (f,(IntKind.i64.wrap (a+(1:Int))))))))) else (bG (some c)))
def rh (b:aw) (s:(ao×Int)):Option ((ao×Int) ⊕ (ao)) :=
 match s with | (c,a)=>(bif (decide (a<((b.aX).length:Int))) then ((dC b.aX a).bind fun d=>((dS d.1).bind fun e=>((ax c e (8:Int)).bind fun f=>((dS d.2).bind fun g=>((ax f g (8:Int)).bind fun h=>(some (Sum.inl (h,(IntKind.i64.wrap (a+(1:Int))))))))))) else (bG (some c)))
def vt (b:aw) (s:(ao×Int)):Option ((ao×Int) ⊕ (ao)) :=
 match s with | (c,a)=>(bif (decide (a<((b.dD).length:Int))) then ((dC b.dD a).bind fun d=>((dS d).bind fun e=>((ax c e (8:Int)).bind fun f=>(some (Sum.inl (f,(IntKind.i64.wrap (a+(1:Int))))))))) else (bG (some c)))
def vF (a:aw) (b:(ao)):Option (ao) :=
 ((en b a.Data).bind fun c=>(some c))
def vq (a:aw) (b:(ao)):Option (ao) :=
 ((ax b (IntKind.u64.wrap ((a.dD).length:Int)) (4:Int)).bind fun c=>(((bA (vt a) (c,(0:Int)))).bind (vF a)))
def vx (a:aw) (b:(ao)):Option (ao) :=
 ((ax b (IntKind.u64.wrap ((a.aX).length:Int)) (4:Int)).bind fun c=>(((bA (rh a) (c,(0:Int)))).bind (vq a)))
def uV (b:ao) (a:aw):Option (ao) :=
 ((ax b a.ID.ab (8:Int)).bind fun c=>((ax c a.ID.Seq (8:Int)).bind fun d=>((ax d a.ae (8:Int)).bind fun e=>((ax e (IntKind.u64.wrap ((a.dO).length:Int)) (4:Int)).bind fun f=>(((bA (vK a) (f,(0:Int)))).bind (vx a))))))
def jo (c:(Int)) (d:bN) (s:(ao×Int)):Option ((ao×Int) ⊕ ((List Int))) :=
 match s with | (b,a)=>(bif (decide (a<c)) then ((dC d.l a).bind fun e=>((uV b e).bind fun f=>(some (Sum.inl (f,(IntKind.i64.wrap (a+(1:Int)))))))) else (bG ((dE b).bind fun g=>(some g))))
def iv (b:(Option bN)):Option ((List Int)) :=
 (match b with | none=>none | some a=>((jk (some a)).bind fun c=>((ax ({p:=[]}:ao) (IntKind.u64.wrap c) (4:Int)).bind fun d=>((jk (some a)).bind fun e=>(bA (jo e a) (d,(0:Int)))))))
def kc (a:(Option bE)):Option (Int) :=
 (match a with | none=>none | some b=>(some ((b.l).length:Int)))
def kB (b:bB) (s:(ao×Int)):Option ((ao×Int) ⊕ (ao)) :=
 match s with | (c,a)=>(bif (decide (a<((b.dT).length:Int))) then ((dC b.dT a).bind fun d=>((iW c d.Has).bind fun e=>((en e d.Val).bind fun f=>(some (Sum.inl (f,(IntKind.i64.wrap (a+(1:Int))))))))) else (bG (some c)))
def jc (b:(List bP)) (e:Int) (s:(ao×Int)):Option ((ao×Int) ⊕ ((ao×Int) ⊕ (ao))) :=
 match s with | (c,a)=>(bif (decide (a<((b).length:Int))) then ((dC b a).bind fun d=>((dS d.At).bind fun f=>((ax c f (8:Int)).bind fun g=>((en g d.Val).bind fun h=>(some (Sum.inl (h,(IntKind.i64.wrap (a+(1:Int)))))))))) else (bG (some (Sum.inl (c,(IntKind.i64.wrap (e+(1:Int))))))))
def kG (b:bB) (s:(ao×Int)):Option ((ao×Int) ⊕ (ao)) :=
 match s with | (c,a)=>(bif (decide (a<((b.aX).length:Int))) then ((dC b.aX a).bind fun d=>((ax c (IntKind.u64.wrap ((d).length:Int)) (4:Int)).bind fun e=>(bA (jc d a) (e,(0:Int))))) else (bG (some c)))
def pR (a:bB) (b:(ao)):Option (ao) :=
 ((ax b (IntKind.u64.wrap ((a.aX).length:Int)) (4:Int)).bind fun c=>(bA (kG a) (c,(0:Int))))
def nq (b:ao) (a:bB):Option (ao) :=
 ((ax b (IntKind.u64.wrap a.E) (1:Int)).bind fun c=>((ax c a.ae (8:Int)).bind fun d=>((ax d a.Index (8:Int)).bind fun e=>((ax e (IntKind.u64.wrap ((a.dT).length:Int)) (4:Int)).bind fun f=>(((bA (kB a) (f,(0:Int)))).bind (pR a))))))
def iI (d:(Int)) (e:bE) (s:(ao×Int)):Option ((ao×Int) ⊕ ((List Int))) :=
 match s with | (c,a)=>(bif (decide (a<d)) then ((dC e.l a).bind fun b=>((ax c b.cV (8:Int)).bind fun f=>((ax f b.seq (8:Int)).bind fun g=>((nq g b.r).bind fun h=>(some (Sum.inl (h,(IntKind.i64.wrap (a+(1:Int)))))))))) else (bG ((dE c).bind fun i=>(some i))))
def gE (b:(Option bE)):Option ((List Int)) :=
 (match b with | none=>none | some a=>((kc (some a)).bind fun c=>((ax ({p:=[]}:ao) (IntKind.u64.wrap c) (4:Int)).bind fun d=>((kc (some a)).bind fun e=>(bA (iI e a) (d,(0:Int)))))))
def lP (a:(Option cg)):Option (Int) :=
 (match a with | none=>none | some b=>(some ((b.l).length:Int)))
def js (d:(Int)) (e:cg) (s:(ao×Int)):Option ((ao×Int) ⊕ ((List Int))) :=
 match s with | (c,b)=>(bif (decide (b<d)) then ((dC e.l b).bind fun a=>((ax c a.r.ID (8:Int)).bind fun f=>((ax f (IntKind.u64.wrap a.r.dn) (1:Int)).bind fun g=>((ax g (IntKind.u64.wrap a.r.To) (1:Int)).bind fun h=>((dS a.r.Lo).bind fun i=>((ax h i (8:Int)).bind fun j=>((dS a.r.Hi).bind fun k=>((ax j k (8:Int)).bind fun m=>((ax m a.r.Authority (8:Int)).bind fun n=>((ax n (IntKind.u64.wrap a.r.cx) (4:Int)).bind fun o=>((ax o a.from_ (8:Int)).bind fun p=>((ax p a.to_ (8:Int)).bind fun q=>(some (Sum.inl (q,(IntKind.i64.wrap (b+(1:Int)))))))))))))))))) else (bG ((dE c).bind fun t=>(some t))))
def im (b:(Option cg)):Option ((List Int)) :=
 (match b with | none=>none | some a=>((lP (some a)).bind fun c=>((ax ({p:=[]}:ao) (IntKind.u64.wrap c) (4:Int)).bind fun d=>((lP (some a)).bind fun e=>(bA (js e a) (d,(0:Int)))))))
def ma (c:(List bK)) (s:(ao×Int)):Option ((ao×Int) ⊕ (ao)) :=
 match s with | (d,a)=>(bif (decide (a<((c).length:Int))) then ((dC c a).bind fun b=>((dS b.At).bind fun e=>((ax d e (8:Int)).bind fun f=>((iW f b.Del).bind fun g=>((en g b.Val).bind fun h=>(some (Sum.inl (h,(IntKind.i64.wrap (a+(1:Int))))))))))) else (bG (some d)))
def oM (b:ao) (a:(List bK)):Option (ao) :=
 ((ax b (IntKind.u64.wrap ((a).length:Int)) (4:Int)).bind fun c=>(bA (ma a) (c,(0:Int))))
def iS (b:aG) (s:(ao×Int)):Option ((ao×Int) ⊕ (ao)) :=
 match s with | (c,a)=>(bif (decide (a<((b.dM).length:Int))) then ((dC b.dM a).bind fun d=>((ax c (IntKind.u64.wrap d.oD) (1:Int)).bind fun e=>((oM e d.cw).bind fun f=>(some (Sum.inl (f,(IntKind.i64.wrap (a+(1:Int))))))))) else (bG (some c)))
def ml (a:aG) (b:(ao)):Option ((List Int)) :=
 ((nq b a.R).bind fun c=>((dE c).bind fun d=>(some d)))
def nh (a:aG):Option ((List Int)) :=
 ((ax ({p:=[]}:ao) (IntKind.u64.wrap a.Kind) (1:Int)).bind fun b=>(bif (a.Kind==(1:Int)) then ((ax b a.ae (8:Int)).bind fun c=>((dE c).bind fun d=>(some d))) else (bif (a.Kind==(2:Int)) then ((uV b a.br).bind fun e=>((dE e).bind fun f=>(some f))) else (bif (a.Kind==(3:Int)) then (((ax b a.ID.ab (8:Int)).bind fun g=>((ax g a.ID.Seq (8:Int)).bind fun h=>(some h))).bind fun i=>((ax i (IntKind.u64.wrap a.E) (1:Int)).bind fun j=>((ax j a.ae (8:Int)).bind fun k=>((ax k a.Index (8:Int)).bind fun l=>((oM l a.cw).bind fun m=>((dE m).bind fun n=>(some n))))))) else (bif (a.Kind==(4:Int)) then (((ax b a.ID.ab (8:Int)).bind fun o=>((ax o a.ID.Seq (8:Int)).bind fun q=>(some q))).bind fun s=>((ax s a.ae (8:Int)).bind fun t=>((ax t a.bY (2:Int)).bind fun u=>((ax u (IntKind.u64.wrap ((a.dM).length:Int)) (4:Int)).bind fun v=>(((bA (iS a) (v,(0:Int)))).bind (ml a)))))) else (bif (a.Kind==(5:Int)) then (((ax b a.ID.ab (8:Int)).bind fun x=>((ax x a.ID.Seq (8:Int)).bind fun y=>(some y))).bind fun A=>((dE A).bind fun B=>(some B))) else (bif (a.Kind==(6:Int)) then none else (bif (a.Kind==(7:Int)) then (((ax b a.ID.ab (8:Int)).bind fun C=>((ax C a.ID.Seq (8:Int)).bind fun D=>(some D))).bind fun F=>((ax F a.ae (8:Int)).bind fun H=>none)) else ((dE b).bind fun G=>(some G))))))))))
def iB (c:ai) (s:(ao×Int)):Option ((ao×Int) ⊕ (ao)) :=
 match s with | (d,b)=>(bif (decide (b<((c.open_).length:Int))) then ((dC c.open_ b).bind fun a=>((ax d (IntKind.u64.wrap a.E) (1:Int)).bind fun e=>((nh ({a with Kind:=(4:Int),Index:=(0:Int),E:=(0:Int),br:=dX,cw:=[],R:=({E:=(0:Int),ae:=(0:Int),Index:=a.Index,dT:=[],aX:=[]}:bB),ap:=dY,On:=false}:aG)).bind fun f=>((en e f).bind fun g=>(some (Sum.inl (g,(IntKind.i64.wrap (b+(1:Int)))))))))) else (bG (some d)))
def iG (c:ai) (s:(ao×Int)):Option ((ao×Int) ⊕ (ao)) :=
 match s with | (d,b)=>(bif (decide (b<((c.out).length:Int))) then ((dC c.out b).bind fun a=>((ax d (IntKind.u64.wrap a.To) (1:Int)).bind fun e=>((ax e a.N (8:Int)).bind fun f=>((ax f a.ap (8:Int)).bind fun g=>((ax g a.ae (8:Int)).bind fun h=>((dS a.W.At).bind fun i=>((ax h i (8:Int)).bind fun j=>((iW j a.W.Del).bind fun k=>((en k a.W.Val).bind fun l=>(some (Sum.inl (l,(IntKind.i64.wrap (b+(1:Int))))))))))))))) else (bG (some d)))
def iH (c:ai) (s:(ao×Int)):Option ((ao×Int) ⊕ ((List Int))) :=
 match s with | (d,a)=>(bif (decide (a<((c.used).length:Int))) then ((dC c.used a).bind fun b=>((ax d b.jW (8:Int)).bind fun e=>((ax e b.cI (8:Int)).bind fun f=>((ax f (IntKind.u64.wrap b.n) (4:Int)).bind fun g=>(some (Sum.inl (g,(IntKind.i64.wrap (a+(1:Int)))))))))) else (bG ((dE d).bind fun h=>(some h))))
def me (a:ai) (b:(ao)):Option ((List Int)) :=
 ((ax b (IntKind.u64.wrap ((a.used).length:Int)) (4:Int)).bind fun c=>(bA (iH a) (c,(0:Int))))
def lT (a:ai) (b:(ao)):Option ((List Int)) :=
 ((ax b (IntKind.u64.wrap ((a.out).length:Int)) (4:Int)).bind fun c=>(((bA (iG a) (c,(0:Int)))).bind (me a)))
def gU (b:(Option ai)):Option ((List Int)) :=
 (match b with | none=>none | some a=>((ax ({p:=[]}:ao) (IntKind.u64.wrap a.wide) (4:Int)).bind fun c=>((ax c a.cI (8:Int)).bind fun d=>((ki a.store).bind fun e=>((en d e).bind fun f=>((iv a.ft).bind fun g=>((en f g).bind fun h=>((gE a.last).bind fun i=>((en h i).bind fun j=>((im a.book).bind fun k=>((en j k).bind fun l=>((ax l (IntKind.u64.wrap ((a.open_).length:Int)) (4:Int)).bind fun m=>(((bA (iB a) (m,(0:Int)))).bind (lT a))))))))))))))
def jb (a:(List Int)):Option (ag) :=
 (some ({p:=a,bad:=false}:ag))
def gQ (b:Int) (d:ag) (s:(Int×Int)):Option ((Int×Int) ⊕ (Int)) :=
 match s with | (a,c)=>(bif (decide (a<(if (8:Int)<b then (8:Int) else b))) then ((dC d.p a).bind fun e=>(gd (decide ((0:Int)≤(IntKind.i64.wrap ((8:Int)*a)))) (some (Sum.inl ((IntKind.i64.wrap (a+(1:Int))),(bOr .u64 c (Hq .u64 (IntKind.u64.wrap e) (IntKind.i64.wrap ((8:Int)*a))))))))) else (bG (some c)))
def mJ (a:ag) (b:Int) (c:(Int)):Option (Int×ag) :=
 (gd (fits a.p b (((a.p).length:Nat):Int)) (some (c,({p:=(lL a.p b (((a.p).length:Nat):Int)),bad:=a.bad}:ag))))
def aE (a:ag) (b:Int):Option (Int×ag) :=
 (bif a.bad then none else (bif (decide (b<(0:Int))) then none else (bif (decide (((a.p).length:Int)<b)) then none else (((bA (gQ b a) ((0:Int),(0:Int)))).bind (mJ a b)))))
def du (c:ag) (b:Int):Option ((List Int)×ag) :=
 ((aE c (4:Int)).bind fun a=>(bif a.2.bad then none else (bif (decide (b<(0:Int))) then none else (bif (decide (a.1>(IntKind.u64.wrap b))) then none else (bif (decide (a.1>(IntKind.u64.wrap ((a.2.p).length:Int)))) then none else (gd (fits a.2.p (0:Int) a.1) (gd (room ([]:List Int) (lL a.2.p (0:Int) a.1)) (gd (fits a.2.p a.1 (((a.2.p).length:Nat):Int)) (some ((lL a.2.p (0:Int) a.1),({p:=(lL a.2.p a.1 (((a.2.p).length:Nat):Int)),bad:=a.2.bad}:ag)))))))))))
def eS (a:ag):Option (Bool) :=
 (some a.bad)
def eB (a:ag):Option (Int) :=
 ((eS a).bind fun b=>(bif b then (some (0:Int)) else (some ((a.p).length:Int))))
def cd (c:ag) (b:Int):Option (Int×ag) :=
 ((aE c (4:Int)).bind fun a=>(bif (decide (b<(0:Int))) then none else (bif (decide (a.1>(IntKind.u64.wrap b))) then none else (some ((IntKind.i64.wrap a.1),a.2)))))
def fg (b:ag):Option (Bool×ag) :=
 ((aE b (1:Int)).bind fun a=>(bif (decide (a.1>(1:Int))) then none else (some ((a.1==(1:Int)),a.2))))
def eK (a:ag):Option (Bool) :=
 ((eS a).bind fun b=>(bif (!b) then (some (((a.p).length:Int)==(0:Int))) else none))
def kE (c:bW) (d:Int) (a:(Int)):Option ((Int) ⊕ ((Int) ⊕ (Bool))) :=
 (bif (decide (a<((c.l).length:Int))) then ((dC c.l a).bind fun b=>(bif (decide (a>(0:Int))) then ((dC c.l (IntKind.i64.wrap (a - (1:Int)))).bind fun e=>((rY e b.ae b.Index).bind fun f=>(bif (!f) then none else (bif b.Del then (bif (decide (((b.Val).length:Int)>(0:Int))) then none else (some (Sum.inl (IntKind.i64.wrap (a+(1:Int)))))) else (some (Sum.inl (IntKind.i64.wrap (a+(1:Int))))))))) else (bif b.Del then (bif (decide (((b.Val).length:Int)>(0:Int))) then none else (some (Sum.inl (IntKind.i64.wrap (a+(1:Int)))))) else (some (Sum.inl (IntKind.i64.wrap (a+(1:Int)))))))) else (bG (some (Sum.inl (IntKind.i64.wrap (d+(1:Int)))))))
def kC (a:bW) (b:Int) (c:Unit):Option ((Int) ⊕ (Bool)) :=
 (bA (kE a b) (0:Int))
def kH (c:cn) (b:(Int)):Option ((Int) ⊕ (Bool)) :=
 (bif (decide (b<((c.rows).length:Int))) then ((dC c.rows b).bind fun a=>(hQ (bif (decide (b>(0:Int))) then ((dC c.rows (IntKind.i64.wrap (b - (1:Int)))).bind fun d=>(bif (decide (d.eW≥a.eW)) then none else (bif (((a.l).length:Int)==(0:Int)) then none else ((eP a.eW).bind fun e=>((dS e).bind fun f=>(bif (f !=a.eW) then none else (some (Sum.inl ())))))))) else (bif (((a.l).length:Int)==(0:Int)) then none else ((eP a.eW).bind fun g=>((dS g).bind fun h=>(bif (h !=a.eW) then none else (some (Sum.inl ()))))))) (kC a b))) else (bG (some true)))
def np (a:(Option cn)):Option (Bool) :=
 (match a with | none=>none | some b=>(bA (kH b) (0:Int)))
def ni (h:(Int×ag)) (s:((List bf)×ag×Int)):Option (((List bf)×ag×Int) ⊕ (ag×(List bf))) :=
 match s with | (a,f,g)=>(bif (decide (g<h.1)) then ((aE f (8:Int)).bind fun b=>((aE b.2 (8:Int)).bind fun c=>((fg c.2).bind fun d=>((du d.2 (256:Int)).bind fun e=>(gd (room a ([({ae:=b.1,Index:=c.1,Del:=d.1,Val:=e.1}:bf)])) (some (Sum.inl ((a++([({ae:=b.1,Index:=c.1,Del:=d.1,Val:=e.1}:bf)])),e.2,(IntKind.i64.wrap (g+(1:Int))))))))))) else (bG (some (f,a))))
def qP (a:cn) (b:(Int×ag)) (d:Int) (s:(ag×(List bf))):Option ((ag×cn×Int) ⊕ (ag×cn)) :=
 match s with | (e,c)=>(gd (room a.rows ([({eW:=b.1,l:=c}:bW)])) (some (Sum.inl (e,({rows:=(a.rows++([({eW:=b.1,l:=c}:bW)]))}:cn),(IntKind.i64.wrap (d+(1:Int)))))))
def mS (f:(Int×ag)) (s:(ag×cn×Int)):Option ((ag×cn×Int) ⊕ (ag×cn)) :=
 match s with | (b,c,d)=>(bif (decide (d<f.1)) then ((aE b (8:Int)).bind fun a=>((eB a.2).bind fun g=>((cd a.2 g).bind fun e=>(((bA (ni e) ([],e.2,(0:Int)))).bind (qP c a d))))) else (bG (some (b,c))))
def rF (s:(ag×cn)):Option (cn×Int) :=
 match s with | (b,a)=>((eK b).bind fun c=>(bif (!c) then none else ((np (some a)).bind fun d=>(bif (!d) then none else (some (a,(0:Int)))))))
def sV (c:(List Int)):Option (cn×Int) :=
 ((jb c).bind fun a=>(uT.bind fun d=>((eB a).bind fun e=>((cd a e).bind fun b=>(((bA (mS b) (b.2,d,(0:Int)))).bind (rF))))))
def kQ (f:(Int×ag)) (s:((List Nat)×ag×Int)):Option (((List Nat)×ag×Int) ⊕ (ag×(List Nat))) :=
 match s with | (a,b,c)=>(bif (decide (c<f.1)) then ((aE b (8:Int)).bind fun d=>((eP d.1).bind fun e=>(gd (room a ([e])) (some (Sum.inl ((a++([e])),d.2,(IntKind.i64.wrap (c+(1:Int))))))))) else (bG (some (b,a))))
def kR (h:(Int×ag)) (s:((List (Nat×Nat))×ag×Int)):Option (((List (Nat×Nat))×ag×Int) ⊕ (ag×(List (Nat×Nat)))) :=
 match s with | (a,b,c)=>(bif (decide (c<h.1)) then ((aE b (8:Int)).bind fun d=>((eP d.1).bind fun e=>((aE d.2 (8:Int)).bind fun f=>((eP f.1).bind fun g=>(gd (room a ([(e,g)])) (some (Sum.inl ((a++([(e,g)])),f.2,(IntKind.i64.wrap (c+(1:Int))))))))))) else (bG (some (b,a))))
def kT (f:(Int×ag)) (s:((List Nat)×ag×Int)):Option (((List Nat)×ag×Int) ⊕ (ag×(List Nat))) :=
 match s with | (a,b,c)=>(bif (decide (c<f.1)) then ((aE b (8:Int)).bind fun d=>((eP d.1).bind fun e=>(gd (room a ([e])) (some (Sum.inl ((a++([e])),d.2,(IntKind.i64.wrap (c+(1:Int))))))))) else (bG (some (b,a))))
def uC (b c d:(Int×ag)) (e:(List Nat)) (f:(List (Nat×Nat))) (s:(ag×(List Nat))):Option (aw×ag) :=
 match s with | (g,h)=>((du g (257:Int)).bind fun a=>(some (({ID:=({ab:=b.1,Seq:=c.1}:cy),ae:=d.1,dO:=e,aX:=f,dD:=h,Data:=a.1}:aw),a.2)))
def sA (b c d:(Int×ag)) (e:(List Nat)) (s:(ag×(List (Nat×Nat)))):Option (aw×ag) :=
 match s with | (f,g)=>((((cd f (32:Int)).bind fun a=>(bA (kT a) ([],a.2,(0:Int))))).bind (uC b c d e g))
def sw (b c d:(Int×ag)) (s:(ag×(List Nat))):Option (aw×ag) :=
 match s with | (e,f)=>((((cd e (32:Int)).bind fun a=>(bA (kR a) ([],a.2,(0:Int))))).bind (sA b c d f))
def ph (e:ag):Option (aw×ag) :=
 ((aE e (8:Int)).bind fun a=>((aE a.2 (8:Int)).bind fun b=>((aE b.2 (8:Int)).bind fun c=>((((cd c.2 (32:Int)).bind fun d=>(bA (kQ d) ([],d.2,(0:Int))))).bind (sw a b c)))))
def nQ (b:bN) (a:(aw×ag)) (c:Int) (d:Unit):Option ((ag×bN×Int) ⊕ ((ag×bN) ⊕ (bN×Int))) :=
 (gd (room b.l ([a.1])) (some (Sum.inl (a.2,({l:=(b.l++([a.1]))}:bN),(IntKind.i64.wrap (c+(1:Int)))))))
def lQ (e:(Int×ag)) (s:(ag×bN×Int)):Option ((ag×bN×Int) ⊕ ((ag×bN) ⊕ (bN×Int))) :=
 match s with | (c,b,a)=>(bif (decide (a<e.1)) then ((ph c).bind fun d=>(hQ (bif (decide (a>(0:Int))) then ((dC b.l (IntKind.i64.wrap (a - (1:Int)))).bind fun f=>((mB f d.1.ID).bind fun g=>(bif (decide (g≥(0:Int))) then none else (some (Sum.inl ()))))) else (some (Sum.inl ()))) (nQ b d a))) else (bG (some (Sum.inl (c,b)))))
def qq (b:(List Int)) (s:(ag×bN)):Option (bN×Int) :=
 match s with | (c,a)=>((eK c).bind fun d=>(bif (!d) then none else ((iv (some a)).bind fun e=>((dU e b).bind fun f=>(bif (!f) then none else (some (a,(0:Int))))))))
def qS (a:(List Int)):Option (bN×Int) :=
 ((jb a).bind fun b=>(tG.bind fun d=>(hQ ((eB b).bind fun e=>((cd b e).bind fun c=>(bA (lQ c) (c.2,d,(0:Int))))) (qq a))))
def fC (f:(Int×ag)) (s:((List cC)×ag×Int)):Option (((List cC)×ag×Int) ⊕ (ag×(List cC))) :=
 match s with | (a,d,e)=>(bif (decide (e<f.1)) then ((fg d).bind fun b=>((du b.2 (256:Int)).bind fun c=>(gd (room a ([({Has:=b.1,Val:=c.1}:cC)])) (some (Sum.inl ((a++([({Has:=b.1,Val:=c.1}:cC)])),c.2,(IntKind.i64.wrap (e+(1:Int))))))))) else (bG (some (d,a))))
def fA (g:(Int×ag)) (s:(ag×Int×(List bP))):Option ((ag×Int×(List bP)) ⊕ (ag×(List bP))) :=
 match s with | (c,d,a)=>(bif (decide (d<g.1)) then ((aE c (8:Int)).bind fun e=>((eP e.1).bind fun f=>((du e.2 (256:Int)).bind fun b=>(gd (room a ([({At:=f,Val:=b.1}:bP)])) (some (Sum.inl (b.2,(IntKind.i64.wrap (d+(1:Int))),(a++([({At:=f,Val:=b.1}:bP)]))))))))) else (bG (some (c,a))))
def oK (a:(List (List bP))) (c:Int) (s:(ag×(List bP))):Option (((List (List bP))×ag×Int) ⊕ (bB×ag)) :=
 match s with | (d,b)=>(gd (room a ([b])) (some (Sum.inl ((a++([b])),d,(IntKind.i64.wrap (c+(1:Int)))))))
def fD (e f g h:(Int×ag)) (i:(List cC)) (s:((List (List bP))×ag×Int)):Option (((List (List bP))×ag×Int) ⊕ (bB×ag)) :=
 match s with | (a,b,c)=>(bif (decide (c<e.1)) then ((((cd b (64:Int)).bind fun d=>(bA (fA d) (d.2,(0:Int),[])))).bind (oK a c)) else (bG (some (({E:=(IntKind.i64.wrap f.1),ae:=g.1,Index:=h.1,dT:=i,aX:=a}:bB),b))))
def po (b c d:(Int×ag)) (s:(ag×(List cC))):Option (bB×ag) :=
 match s with | (e,f)=>((cd e (32:Int)).bind fun a=>(bA (fD a b c d f) ([],a.2,(0:Int))))
def gW (e:ag):Option (bB×ag) :=
 ((aE e (1:Int)).bind fun a=>((aE a.2 (8:Int)).bind fun b=>((aE b.2 (8:Int)).bind fun c=>((((cd c.2 (32:Int)).bind fun d=>(bA (fC d) ([],d.2,(0:Int))))).bind (po a b c)))))
def lV (b:bE) (c d:(Int×ag)) (a:(bB×ag)) (e:Int) (f:Unit):Option ((ag×bE×Int) ⊕ ((ag×bE) ⊕ (bE×Int))) :=
 (gd (room b.l ([({cV:=c.1,seq:=d.1,r:=a.1}:aZ)])) (some (Sum.inl (a.2,({l:=(b.l++([({cV:=c.1,seq:=d.1,r:=a.1}:aZ)]))}:bE),(IntKind.i64.wrap (e+(1:Int)))))))
def kg (f:(Int×ag)) (s:(ag×bE×Int)):Option ((ag×bE×Int) ⊕ ((ag×bE) ⊕ (bE×Int))) :=
 match s with | (e,b,a)=>(bif (decide (a<f.1)) then ((aE e (8:Int)).bind fun c=>((aE c.2 (8:Int)).bind fun d=>((gW d.2).bind fun g=>(hQ (bif (d.1==(0:Int)) then none else (bif (decide (a>(0:Int))) then ((dC b.l (IntKind.i64.wrap (a - (1:Int)))).bind fun h=>(bif (decide (h.cV≥c.1)) then none else (some (Sum.inl ())))) else (some (Sum.inl ())))) (lV b c d g a))))) else (bG (some (Sum.inl (e,b)))))
def oA (b:(List Int)) (s:(ag×bE)):Option (bE×Int) :=
 match s with | (c,a)=>((eK c).bind fun d=>(bif (!d) then none else ((gE (some a)).bind fun e=>((dU e b).bind fun f=>(bif (!f) then none else (some (a,(0:Int))))))))
def pn (a:(List Int)):Option (bE×Int) :=
 ((jb a).bind fun b=>(qG.bind fun d=>(hQ ((eB b).bind fun e=>((cd b e).bind fun c=>(bA (kg c) (c.2,d,(0:Int))))) (oA a))))
def kY (p:(Int×ag)) (s:(ag×cg×Int)):Option ((ag×cg×Int) ⊕ (ag×cg)) :=
 match s with | (i,a,j)=>(bif (decide (j<p.1)) then ((aE i (8:Int)).bind fun b=>((aE b.2 (1:Int)).bind fun c=>((aE c.2 (1:Int)).bind fun d=>((aE d.2 (8:Int)).bind fun k=>((eP k.1).bind fun m=>((aE k.2 (8:Int)).bind fun n=>((eP n.1).bind fun o=>((aE n.2 (8:Int)).bind fun e=>((aE e.2 (4:Int)).bind fun f=>((aE f.2 (8:Int)).bind fun g=>((aE g.2 (8:Int)).bind fun h=>(gd (room a.l ([({r:=({ID:=b.1,dn:=(IntKind.i64.wrap c.1),To:=(IntKind.i64.wrap d.1),Lo:=m,Hi:=o,Authority:=e.1,cx:=(IntKind.i64.wrap f.1)}:dV),from_:=g.1,to_:=h.1}:dj)])) (some (Sum.inl (h.2,({l:=(a.l++([({r:=({ID:=b.1,dn:=(IntKind.i64.wrap c.1),To:=(IntKind.i64.wrap d.1),Lo:=m,Hi:=o,Authority:=e.1,cx:=(IntKind.i64.wrap f.1)}:dV),from_:=g.1,to_:=h.1}:dj)]))}:cg),(IntKind.i64.wrap (j+(1:Int)))))))))))))))))) else (bG (some (i,a))))
def pu (b:(List Int)) (s:(ag×cg)):Option (cg×Int) :=
 match s with | (c,a)=>((eK c).bind fun d=>(bif (!d) then none else ((im (some a)).bind fun e=>((dU e b).bind fun f=>(bif (!f) then none else (some (a,(0:Int))))))))
def qj (a:(List Int)):Option (cg×Int) :=
 ((jb a).bind fun b=>(sn.bind fun d=>((((eB b).bind fun e=>((cd b e).bind fun c=>(bA (kY c) (c.2,d,(0:Int)))))).bind (pu a))))
def fW (h:(Int×ag)) (s:(ag×(List bK)×Int)):Option ((ag×(List bK)×Int) ⊕ ((List bK)×ag)) :=
 match s with | (d,a,e)=>(bif (decide (e<h.1)) then ((aE d (8:Int)).bind fun f=>((eP f.1).bind fun g=>((fg f.2).bind fun b=>((du b.2 (256:Int)).bind fun c=>(gd (room a ([({At:=g,Del:=b.1,Val:=c.1}:bK)])) (some (Sum.inl (c.2,(a++([({At:=g,Del:=b.1,Val:=c.1}:bK)])),(IntKind.i64.wrap (e+(1:Int))))))))))) else (bG (some (a,d))))
def iy (b:ag):Option ((List bK)×ag) :=
 ((cd b (32:Int)).bind fun a=>(bA (fW a) (a.2,[],(0:Int))))
def fZ (f:(Int×ag)) (s:((List dN)×ag×Int)):Option (((List dN)×ag×Int) ⊕ (ag×(List dN))) :=
 match s with | (a,d,e)=>(bif (decide (e<f.1)) then ((aE d (1:Int)).bind fun b=>((iy b.2).bind fun c=>(gd (room a ([({oD:=(IntKind.i64.wrap b.1),cw:=c.1}:dN)])) (some (Sum.inl ((a++([({oD:=(IntKind.i64.wrap b.1),cw:=c.1}:dN)])),c.2,(IntKind.i64.wrap (e+(1:Int))))))))) else (bG (some (d,a))))
def oE (b:(Int×ag)) (c d:Int) (e f:(Int×ag)) (s:(ag×(List dN))):Option ((ag×aG) ⊕ (aG×Int)) :=
 match s with | (g,h)=>((gW g).bind fun a=>(some (Sum.inl (a.2,({Kind:=(IntKind.u8.wrap b.1),ID:=({ab:=c,Seq:=d}:cy),ae:=e.1,Index:=(0:Int),E:=(0:Int),br:=dX,cw:=[],R:=a.1,bY:=f.1,dM:=h,ap:=dY,On:=false}:aG)))))
def oF (b:(List Int)) (s:(ag×aG)):Option (aG×Int) :=
 match s with | (c,a)=>((eK c).bind fun d=>(bif (!d) then none else ((nh a).bind fun e=>((dU e b).bind fun f=>(bif (!f) then none else (some (a,(0:Int))))))))
def oP (b:(List Int)):Option (aG×Int) :=
 ((jb b).bind fun u=>((aE u (1:Int)).bind fun a=>(hQ (bif ((IntKind.u8.wrap a.1)==(1:Int)) then ((aE a.2 (8:Int)).bind fun c=>(some (Sum.inl (c.2,({Kind:=(IntKind.u8.wrap a.1),ID:=({ab:=(0:Int),Seq:=(0:Int)}:cy),ae:=c.1,Index:=(0:Int),E:=(0:Int),br:=dX,cw:=[],R:=ct,bY:=(0:Int),dM:=[],ap:=dY,On:=false}:aG))))) else (bif ((IntKind.u8.wrap a.1)==(2:Int)) then ((ph a.2).bind fun d=>(some (Sum.inl (d.2,({Kind:=(IntKind.u8.wrap a.1),ID:=({ab:=(0:Int),Seq:=(0:Int)}:cy),ae:=(0:Int),Index:=(0:Int),E:=(0:Int),br:=d.1,cw:=[],R:=ct,bY:=(0:Int),dM:=[],ap:=dY,On:=false}:aG))))) else (bif ((IntKind.u8.wrap a.1)==(3:Int)) then (((aE a.2 (8:Int)).bind fun e=>((aE e.2 (8:Int)).bind fun f=>(some (f.2,e.1,f.1)))).bind fun (v,x,y)=>((aE v (1:Int)).bind fun g=>((aE g.2 (8:Int)).bind fun h=>((aE h.2 (8:Int)).bind fun i=>((iy i.2).bind fun j=>(some (Sum.inl (j.2,({Kind:=(IntKind.u8.wrap a.1),ID:=({ab:=x,Seq:=y}:cy),ae:=h.1,Index:=i.1,E:=(IntKind.i64.wrap g.1),br:=dX,cw:=j.1,R:=ct,bY:=(0:Int),dM:=[],ap:=dY,On:=false}:aG))))))))) else (bif ((IntKind.u8.wrap a.1)==(4:Int)) then (((aE a.2 (8:Int)).bind fun k=>((aE k.2 (8:Int)).bind fun l=>(some (l.2,k.1,l.1)))).bind fun (A,B,C)=>((aE A (8:Int)).bind fun m=>((aE m.2 (2:Int)).bind fun n=>((((cd n.2 (8:Int)).bind fun o=>(bA (fZ o) ([],o.2,(0:Int))))).bind (oE a B C m n))))) else (bif ((IntKind.u8.wrap a.1)==(5:Int)) then (((aE a.2 (8:Int)).bind fun p=>((aE p.2 (8:Int)).bind fun q=>(some (q.2,p.1,q.1)))).bind fun (D,F,G)=>(some (Sum.inl (D,({Kind:=(IntKind.u8.wrap a.1),ID:=({ab:=F,Seq:=G}:cy),ae:=(0:Int),Index:=(0:Int),E:=(0:Int),br:=dX,cw:=[],R:=ct,bY:=(0:Int),dM:=[],ap:=dY,On:=false}:aG))))) else (bif ((IntKind.u8.wrap a.1)==(6:Int)) then none else (bif ((IntKind.u8.wrap a.1)==(7:Int)) then (((aE a.2 (8:Int)).bind fun s=>((aE s.2 (8:Int)).bind fun t=>(some (t.2,s.1,t.1)))).bind fun (H,J,K)=>((aE H (8:Int)).bind fun L=>none)) else none))))))) (oF b))))
def nn (g:(Int×ag)) (s:(ag×ai×Int)):Option ((ag×ai×Int) ⊕ ((ag×ai) ⊕ (ai×Int))) :=
 match s with | (d,b,e)=>(bif (decide (e<g.1)) then ((aE d (1:Int)).bind fun c=>((du c.2 (1048576:Int)).bind fun f=>((oP f.1).bind fun a=>(bif (a.2 !=(0:Int)) then none else (bif (a.1.Kind !=(4:Int)) then none else (gd (room b.open_ ([({a.1 with E:=(IntKind.i64.wrap c.1),Index:=a.1.R.Index}:bI)])) (some (Sum.inl (f.2,({b with open_:=(b.open_++([({a.1 with E:=(IntKind.i64.wrap c.1),Index:=a.1.R.Index}:bI)]))}:ai),(IntKind.i64.wrap (e+(1:Int)))))))))))) else (bG (some (Sum.inl (d,b)))))
def mV (l:(Int×ag)) (s:(ag×ai×Int)):Option ((ag×ai×Int) ⊕ (ag×ai)) :=
 match s with | (h,a,i)=>(bif (decide (i<l.1)) then ((aE h (1:Int)).bind fun b=>((aE b.2 (8:Int)).bind fun c=>((aE c.2 (8:Int)).bind fun d=>((aE d.2 (8:Int)).bind fun e=>((aE e.2 (8:Int)).bind fun j=>((eP j.1).bind fun k=>((fg j.2).bind fun f=>((du f.2 (256:Int)).bind fun g=>(gd (room a.out ([({To:=(IntKind.i64.wrap b.1),N:=c.1,ap:=d.1,ae:=e.1,W:=({At:=k,Del:=f.1,Val:=g.1}:bK)}:dw)])) (some (Sum.inl (g.2,({a with out:=(a.out++([({To:=(IntKind.i64.wrap b.1),N:=c.1,ap:=d.1,ae:=e.1,W:=({At:=k,Del:=f.1,Val:=g.1}:bK)}:dw)]))}:ai),(IntKind.i64.wrap (i+(1:Int))))))))))))))) else (bG (some (h,a))))
def ng (g:(Int×ag)) (s:(ag×ai×Int)):Option ((ag×ai×Int) ⊕ (ag×ai)) :=
 match s with | (e,a,f)=>(bif (decide (f<g.1)) then ((aE e (8:Int)).bind fun b=>((aE b.2 (8:Int)).bind fun c=>((aE c.2 (4:Int)).bind fun d=>(gd (room a.used ([({jW:=b.1,cI:=c.1,n:=(IntKind.i64.wrap d.1)}:da)])) (some (Sum.inl (d.2,({a with used:=(a.used++([({jW:=b.1,cI:=c.1,n:=(IntKind.i64.wrap d.1)}:da)]))}:ai),(IntKind.i64.wrap (f+(1:Int)))))))))) else (bG (some (e,a))))
def qX (b:(List Int)) (s:(ag×ai)):Option (ai×Int) :=
 match s with | (c,a)=>((eK c).bind fun d=>(bif (!d) then none else ((gU (some a)).bind fun e=>((dU e b).bind fun f=>(bif (!f) then none else (some (a,(0:Int))))))))
def rG (c:(List Int)) (s:(ag×ai)):Option (ai×Int) :=
 match s with | (a,d)=>((((eB a).bind fun e=>((cd a e).bind fun b=>(bA (ng b) (b.2,d,(0:Int)))))).bind (qX c))
def qQ (c:(List Int)) (s:(ag×ai)):Option (ai×Int) :=
 match s with | (a,d)=>((((eB a).bind fun e=>((cd a e).bind fun b=>(bA (mV b) (b.2,d,(0:Int)))))).bind (rG c))
def sD (a:(List Int)):Option (ai×Int) :=
 ((jb a).bind fun m=>((aE m (4:Int)).bind fun c=>((aE c.2 (8:Int)).bind fun d=>((du d.2 ((a).length:Int)).bind fun e=>((sV e.1).bind fun f=>((du e.2 ((a).length:Int)).bind fun g=>((qS g.1).bind fun h=>((du g.2 ((a).length:Int)).bind fun i=>((pn i.1).bind fun j=>((du i.2 ((a).length:Int)).bind fun b=>((qj b.1).bind fun k=>(bif (!((f.2==(0:Int))&&(h.2==(0:Int))&&(j.2==(0:Int))&&(k.2==(0:Int)))) then none else (hQ ((eB b.2).bind fun n=>((cd b.2 n).bind fun l=>(bA (nn l) (l.2,({wide:=(IntKind.i64.wrap c.1),cI:=d.1,store:=(some f.1),ft:=(some h.1),last:=(some j.1),book:=(some k.1),open_:=[],out:=[],used:=[]}:ai),(0:Int))))) (qQ a))))))))))))))
def aY (a:aB) (b:Int):Option (Int×aB) :=
 (bif (decide (a.I≥((a.L).length:Int))) then (some ((0:Int),a)) else ((dC a.L (IntKind.i64.wrap ((IntKind.i64.wrap (a.I+(1:Int))) - (1:Int)))).bind fun c=>(gd (!(b==(0:Int))) (some ((Int.tmod (IntKind.i64.wrap c) b),({L:=a.L,I:=(IntKind.i64.wrap (a.I+(1:Int)))}:aB))))))
def fN (c:aB):Option (cy×aB) :=
 ((aY c (4:Int)).bind fun a=>((aY a.2 (4:Int)).bind fun b=>(some (({ab:=(IntKind.u64.wrap a.1),Seq:=(IntKind.u64.wrap (IntKind.i64.wrap ((1:Int)+b.1)))}:cy),b.2))))
def ux (a:Int):Option (Nat) :=
 ((dC ([(0:Nat),(4607182418800017408:Nat),(13830554455654793216:Nat),(4612811918334230528:Nat),(9094988921128908188:Nat),(18318360957983683996:Nat),(4602678819172646912:Nat),(4613937818241073152:Nat)]) (Int.tmod a (8:Int))).bind fun b=>(some b))
def dL (b:aB):Option (Nat×aB) :=
 ((aY b (8:Int)).bind fun a=>((ux (IntKind.u8.wrap a.1)).bind fun c=>(some (c,a.2))))
def iT (e:(Int×aB)) (s:(aB×(List Int)×Int)):Option ((aB×(List Int)×Int) ⊕ ((List Int)×aB)) :=
 match s with | (c,a,d)=>(bif (decide (d<e.1)) then ((aY c (26:Int)).bind fun b=>(gd (room a ([(IntKind.u8.wrap (IntKind.i64.wrap ((97:Int)+b.1)))])) (some (Sum.inl (b.2,(a++([(IntKind.u8.wrap (IntKind.i64.wrap ((97:Int)+b.1)))])),(IntKind.i64.wrap (d+(1:Int)))))))) else (bG (some (a,c))))
def gB (b:aB):Option ((List Int)×aB) :=
 ((aY b (4:Int)).bind fun a=>(bA (iT a) (a.2,[],(0:Int))))
def ig (e:(Int×aB)) (s:((List Nat)×aB×Int)):Option (((List Nat)×aB×Int) ⊕ (aB×(List Nat))) :=
 match s with | (a,c,d)=>(bif (decide (d<e.1)) then ((dL c).bind fun b=>(gd (room a ([b.1])) (some (Sum.inl ((a++([b.1])),b.2,(IntKind.i64.wrap (d+(1:Int)))))))) else (bG (some (c,a))))
def iz (f:(Int×aB)) (s:((List (Nat×Nat))×aB×Int)):Option (((List (Nat×Nat))×aB×Int) ⊕ (aB×(List (Nat×Nat)))) :=
 match s with | (a,d,e)=>(bif (decide (e<(IntKind.i64.wrap (Int.tdiv f.1 (2:Int))))) then ((dL d).bind fun b=>((dL b.2).bind fun c=>(gd (room a ([(b.1,c.1)])) (some (Sum.inl ((a++([(b.1,c.1)])),c.2,(IntKind.i64.wrap (e+(1:Int))))))))) else (bG (some (d,a))))
def iq (e:(Int×aB)) (s:((List Nat)×aB×Int)):Option (((List Nat)×aB×Int) ⊕ (aB×(List Nat))) :=
 match s with | (a,c,d)=>(bif (decide (d<e.1)) then ((dL c).bind fun b=>(gd (room a ([b.1])) (some (Sum.inl ((a++([b.1])),b.2,(IntKind.i64.wrap (d+(1:Int)))))))) else (bG (some (c,a))))
def qu (b:(cy×aB)) (c:(Int×aB)) (d:(List Nat)) (e:(List (Nat×Nat))) (s:(aB×(List Nat))):Option (aw×aB) :=
 match s with | (h,f)=>((aY h (4:Int)).bind fun a=>(bif (a.1==(0:Int)) then ((gB a.2).bind fun g=>(some (({ID:=b.1,ae:=(IntKind.u64.wrap (IntKind.i64.wrap ((1:Int)+c.1))),dO:=d,aX:=e,dD:=f,Data:=g.1}:aw),g.2))) else (some (({ID:=b.1,ae:=(IntKind.u64.wrap (IntKind.i64.wrap ((1:Int)+c.1))),dO:=d,aX:=e,dD:=f,Data:=[]}:aw),a.2))))
def qy (b:(cy×aB)) (c:(Int×aB)) (d:(List Nat)) (s:(aB×(List (Nat×Nat)))):Option (aw×aB) :=
 match s with | (e,f)=>((aY e (3:Int)).bind fun a=>(((bA (iq a) ([],a.2,(0:Int)))).bind (qu b c d f)))
def qB (b:(cy×aB)) (c:(Int×aB)) (s:(aB×(List Nat))):Option (aw×aB) :=
 match s with | (d,e)=>((aY d (3:Int)).bind fun a=>(((bA (iz a) ([],a.2,(0:Int)))).bind (qy b c e)))
def ku (d:aB):Option (aw×aB) :=
 ((fN d).bind fun a=>((aY a.2 (4:Int)).bind fun b=>((aY b.2 (3:Int)).bind fun c=>(((bA (ig c) ([],c.2,(0:Int)))).bind (qB a b)))))
def ry (a:(List bK)) (b:(Nat×aB)) (c:(Int×aB)) (e:Int) (s:(aB×(List Int))):Option ((aB×(List bK)×Int) ⊕ ((List bK)×aB)) :=
 match s with | (f,d)=>(gd (room a ([({At:=b.1,Del:=(c.1==(0:Int)),Val:=d}:bK)])) (some (Sum.inl (f,(a++([({At:=b.1,Del:=(c.1==(0:Int)),Val:=d}:bK)])),(IntKind.i64.wrap (e+(1:Int)))))))
def iV (g:(Int×aB)) (s:(aB×(List bK)×Int)):Option ((aB×(List bK)×Int) ⊕ ((List bK)×aB)) :=
 match s with | (b,c,d)=>(bif (decide (d<g.1)) then ((dL b).bind fun e=>((aY e.2 (4:Int)).bind fun a=>(((bif (!(a.1==(0:Int))) then ((gB a.2).bind fun f=>(some (f.2,f.1))) else (some (a.2,[])))).bind (ry c e a d)))) else (bG (some (c,b))))
def hY (b:aB):Option ((List bK)×aB) :=
 ((aY b (3:Int)).bind fun a=>(bA (iV a) (a.2,[],(0:Int))))
def ju (f:(Int×aB)) (s:((List cC)×aB×Int)):Option (((List cC)×aB×Int) ⊕ (aB×(List cC))) :=
 match s with | (a,d,e)=>(bif (decide (e<f.1)) then ((aY d (2:Int)).bind fun b=>((gB b.2).bind fun c=>(gd (room a ([({Has:=(b.1==(0:Int)),Val:=c.1}:cC)])) (some (Sum.inl ((a++([({Has:=(b.1==(0:Int)),Val:=c.1}:cC)])),c.2,(IntKind.i64.wrap (e+(1:Int))))))))) else (bG (some (d,a))))
def jE (f:(Int×aB)) (s:(aB×Int×(List bP))):Option ((aB×Int×(List bP)) ⊕ (aB×(List bP))) :=
 match s with | (d,e,a)=>(bif (decide (e<f.1)) then ((dL d).bind fun b=>((gB b.2).bind fun c=>(gd (room a ([({At:=b.1,Val:=c.1}:bP)])) (some (Sum.inl (c.2,(IntKind.i64.wrap (e+(1:Int))),(a++([({At:=b.1,Val:=c.1}:bP)])))))))) else (bG (some (d,a))))
def sm (a:(List (List bP))) (c:Int) (s:(aB×(List bP))):Option (((List (List bP))×aB×Int) ⊕ (bB×aB)) :=
 match s with | (d,b)=>(gd (room a ([b])) (some (Sum.inl ((a++([b])),d,(IntKind.i64.wrap (c+(1:Int)))))))
def jy (e:(Int×aB)) (f g h:Int) (i:(List cC)) (s:((List (List bP))×aB×Int)):Option (((List (List bP))×aB×Int) ⊕ (bB×aB)) :=
 match s with | (a,b,c)=>(bif (decide (c<(IntKind.i64.wrap (Int.tdiv e.1 (2:Int))))) then ((aY b (3:Int)).bind fun d=>(((bA (jE d) (d.2,(0:Int),[]))).bind (sm a c))) else (bG (some (({E:=f,ae:=g,Index:=h,dT:=i,aX:=a}:bB),b))))
def sc (b c d:Int) (s:(aB×(List cC))):Option (bB×aB) :=
 match s with | (e,f)=>((aY e (3:Int)).bind fun a=>(bA (jy a b c d f) ([],a.2,(0:Int))))
def pt (s:(aB×Int×Int×Int)):Option (bB×aB) :=
 match s with | (b,c,d,e)=>((aY b (3:Int)).bind fun a=>(((bA (ju a) ([],a.2,(0:Int)))).bind (sc c d e)))
def jL (d:aB):Option (bB×aB) :=
 ((((aY d (6:Int)).bind fun a=>((dC ([(0:Int),(0:Int),(0:Int),(8:Int),(9:Int),(3:Int)]) a.1).bind fun e=>((aY a.2 (4:Int)).bind fun b=>((aY b.2 (9:Int)).bind fun c=>(some (c.2,e,(IntKind.u64.wrap b.1),(IntKind.u64.wrap c.1)))))))).bind (pt))
def nD (h:aB):Option (dV×aB) :=
 ((aY h (3:Int)).bind fun a=>((aY a.2 (4:Int)).bind fun b=>((aY b.2 (4:Int)).bind fun c=>((dL c.2).bind fun d=>((dL d.2).bind fun e=>((aY e.2 (2:Int)).bind fun f=>((aY f.2 (3:Int)).bind fun g=>(some (({ID:=(IntKind.u64.wrap a.1),dn:=b.1,To:=c.1,Lo:=d.1,Hi:=e.1,Authority:=(IntKind.u64.wrap f.1),cx:=g.1}:dV),g.2)))))))))
def fh (e:(Int×aB)) (s:((List dN)×aB×Int)):Option (((List dN)×aB×Int) ⊕ (aB×(List dN))) :=
 match s with | (b,d,a)=>(bif (decide (a<e.1)) then ((hY d).bind fun c=>(gd (room b ([({oD:=a,cw:=c.1}:dN)])) (some (Sum.inl ((b++([({oD:=a,cw:=c.1}:dN)])),c.2,(IntKind.i64.wrap (a+(1:Int)))))))) else (bG (some (d,b))))
def qC (b:(Int×aB)) (c:Int) (d:(cy×aB)) (e f:(Int×aB)) (s:(aB×(List dN))):Option (aG×aB) :=
 match s with | (g,h)=>((jL g).bind fun a=>(some (({Kind:=(IntKind.u8.wrap (IntKind.i64.wrap ((1:Int)+b.1))),ID:=({ab:=c,Seq:=d.1.Seq}:cy),ae:=(IntKind.u64.wrap (IntKind.i64.wrap ((1:Int)+e.1))),Index:=(0:Int),E:=(0:Int),br:=dX,cw:=[],R:=a.1,bY:=(IntKind.u64.wrap f.1),dM:=h,ap:=dY,On:=false}:aG),a.2)))
def lz (d:(Int×aB)) (e:(cy×aB)) (s:(aB×Int)):Option (aG×aB) :=
 match s with | (f,g)=>((aY f (4:Int)).bind fun a=>((aY a.2 (4:Int)).bind fun b=>((aY b.2 (3:Int)).bind fun c=>(((bA (fh c) ([],c.2,(0:Int)))).bind (qC d g e a b)))))
def gI (t:aB):Option (aG×aB) :=
 ((aY t (7:Int)).bind fun a=>(bif ((IntKind.u8.wrap (IntKind.i64.wrap ((1:Int)+a.1)))==(1:Int)) then ((aY a.2 (4:Int)).bind fun d=>(some (({Kind:=(IntKind.u8.wrap (IntKind.i64.wrap ((1:Int)+a.1))),ID:=({ab:=(0:Int),Seq:=(0:Int)}:cy),ae:=(IntKind.u64.wrap (IntKind.i64.wrap ((1:Int)+d.1))),Index:=(0:Int),E:=(0:Int),br:=dX,cw:=[],R:=ct,bY:=(0:Int),dM:=[],ap:=dY,On:=false}:aG),d.2))) else (bif ((IntKind.u8.wrap (IntKind.i64.wrap ((1:Int)+a.1)))==(2:Int)) then ((ku a.2).bind fun e=>(some (({Kind:=(IntKind.u8.wrap (IntKind.i64.wrap ((1:Int)+a.1))),ID:=({ab:=(0:Int),Seq:=(0:Int)}:cy),ae:=(0:Int),Index:=(0:Int),E:=(0:Int),br:=e.1,cw:=[],R:=ct,bY:=(0:Int),dM:=[],ap:=dY,On:=false}:aG),e.2))) else (bif ((IntKind.u8.wrap (IntKind.i64.wrap ((1:Int)+a.1)))==(3:Int)) then ((fN a.2).bind fun f=>((aY f.2 (3:Int)).bind fun g=>((dC ([(0:Int),(0:Int),(8:Int)]) g.1).bind fun u=>((aY g.2 (4:Int)).bind fun h=>((aY h.2 (20:Int)).bind fun i=>((hY i.2).bind fun j=>(some (({Kind:=(IntKind.u8.wrap (IntKind.i64.wrap ((1:Int)+a.1))),ID:=f.1,ae:=(IntKind.u64.wrap (IntKind.i64.wrap ((1:Int)+h.1))),Index:=(IntKind.u64.wrap i.1),E:=u,br:=dX,cw:=j.1,R:=ct,bY:=(0:Int),dM:=[],ap:=dY,On:=false}:aG),j.2)))))))) else (bif ((IntKind.u8.wrap (IntKind.i64.wrap ((1:Int)+a.1)))==(4:Int)) then ((fN a.2).bind fun b=>((((aY b.2 (6:Int)).bind fun c=>(bif (c.1==(0:Int)) then (some (c.2,(IntKind.u64.wrap (b.1.ab+(9223372036854775808:Int))))) else (some (c.2,b.1.ab))))).bind (lz a b))) else (bif ((IntKind.u8.wrap (IntKind.i64.wrap ((1:Int)+a.1)))==(5:Int)) then ((fN a.2).bind fun k=>(some (({Kind:=(IntKind.u8.wrap (IntKind.i64.wrap ((1:Int)+a.1))),ID:=k.1,ae:=(0:Int),Index:=(0:Int),E:=(0:Int),br:=dX,cw:=[],R:=ct,bY:=(0:Int),dM:=[],ap:=dY,On:=false}:aG),k.2))) else (bif ((IntKind.u8.wrap (IntKind.i64.wrap ((1:Int)+a.1)))==(6:Int)) then ((nD a.2).bind fun l=>((aY l.2 (3:Int)).bind fun m=>(some (({Kind:=(IntKind.u8.wrap (IntKind.i64.wrap ((1:Int)+a.1))),ID:=({ab:=(0:Int),Seq:=(0:Int)}:cy),ae:=(0:Int),Index:=(0:Int),E:=(0:Int),br:=dX,cw:=[],R:=ct,bY:=(0:Int),dM:=[],ap:=l.1,On:=(decide (m.1>(0:Int)))}:aG),m.2)))) else (bif ((IntKind.u8.wrap (IntKind.i64.wrap ((1:Int)+a.1)))==(7:Int)) then ((fN a.2).bind fun n=>((aY n.2 (4:Int)).bind fun o=>((nD o.2).bind fun p=>((hY p.2).bind fun q=>((jL q.2).bind fun s=>(some (({Kind:=(IntKind.u8.wrap (IntKind.i64.wrap ((1:Int)+a.1))),ID:=n.1,ae:=(IntKind.u64.wrap (IntKind.i64.wrap ((1:Int)+o.1))),Index:=(0:Int),E:=(0:Int),br:=dX,cw:=q.1,R:=s.1,bY:=(0:Int),dM:=[],ap:=p.1,On:=false}:aG),s.2))))))) else (some (({Kind:=(IntKind.u8.wrap (IntKind.i64.wrap ((1:Int)+a.1))),ID:=({ab:=(0:Int),Seq:=(0:Int)}:cy),ae:=(0:Int),Index:=(0:Int),E:=(0:Int),br:=dX,cw:=[],R:=ct,bY:=(0:Int),dM:=[],ap:=dY,On:=false}:aG),a.2))))))))))
def jI (a:aq) (b:(Int)):Option ((Int) ⊕ (Bool)) :=
 (bif (decide (b<((a.H).length:Int))) then ((dC a.H b).bind fun c=>(bif (decide (c.ae≤a.ae)) then (bG (some false)) else (some (Sum.inl (IntKind.i64.wrap (b+(1:Int))))))) else (bG (some true)))
def kt (a:aq):Option (Bool) :=
 (bA (jI a) (0:Int))
def oa (c:(List aw)) (d:cy) (a:(Int)):Option ((Int) ⊕ (aw×Bool)) :=
 (bif (decide (a<((c).length:Int))) then ((dC c a).bind fun b=>(bif ((b.ID.ab==d.ab)&&(b.ID.Seq==d.Seq)) then (bG (some (b,true))) else (some (Sum.inl (IntKind.i64.wrap (a+(1:Int))))))) else (bG (some (dX,false))))
def nI (a:(List aw)) (b:cy):Option (aw×Bool) :=
 (bA (oa a b) (0:Int))
def py (a:Nat):Option (Bool) :=
 (some (decide ((IntKind.i64.wrap (Int.ofNat a))<(0:Int))))
def rr (a b:Nat) (c:Unit):Option (Bool) :=
 (some (fLt a b))
def mm (a b:Nat):Option (Bool) :=
 (bif (fNe a a) then (some false) else (bif (fNe b b) then (some true) else (hQ (bif (fEq a (0:Nat)) then (bif (fEq b (0:Nat)) then ((py a).bind fun c=>(bif c then ((py b).bind fun d=>(bG (some (!d)))) else (bG (some false)))) else (some (Sum.inl ()))) else (some (Sum.inl ()))) (rr a b))))
def fT (a b:Nat):Option (Bool) :=
 ((mm a b).bind fun c=>(bif (!c) then ((mm b a).bind fun d=>(some (!d))) else (some false)))
def iY (b c:aw) (a:(Int)):Option ((Int) ⊕ (Unit ⊕ (Bool))) :=
 (bif (decide (a<((b.dO).length:Int))) then ((dC b.dO a).bind fun d=>((dC c.dO a).bind fun e=>((fT d e).bind fun f=>(bif (!f) then (bG (bG (some false))) else (some (Sum.inl (IntKind.i64.wrap (a+(1:Int))))))))) else (bG (some (Sum.inl ()))))
def iP (b e:aw) (a:(Int)):Option ((Int) ⊕ (Unit ⊕ (Bool))) :=
 (bif (decide (a<((b.aX).length:Int))) then ((dC b.aX a).bind fun c=>((dC e.aX a).bind fun d=>((fT c.1 d.1).bind fun f=>(bif (!f) then (bG (bG (some false))) else ((fT c.2 d.2).bind fun g=>(bif (!g) then (bG (bG (some false))) else (some (Sum.inl (IntKind.i64.wrap (a+(1:Int))))))))))) else (bG (some (Sum.inl ()))))
def iQ (b c:aw) (a:(Int)):Option ((Int) ⊕ (Bool)) :=
 (bif (decide (a<((b.dD).length:Int))) then ((dC b.dD a).bind fun d=>((dC c.dD a).bind fun e=>((fT d e).bind fun f=>(bif (!f) then (bG (some false)) else (some (Sum.inl (IntKind.i64.wrap (a+(1:Int))))))))) else (bG (some true)))
def rf (a b:aw) (c:Unit):Option (Bool) :=
 (bA (iQ a b) (0:Int))
def oG (a b:aw) (c:Unit):Option (Bool) :=
 (hQ (bA (iP a b) (0:Int)) (rf a b))
def lD (a b:aw):Option (Bool) :=
 (bif (!((a.ID.ab==b.ID.ab)&&(a.ID.Seq==b.ID.Seq))) then (some false) else (bif (a.ae !=b.ae) then (some false) else (bif (((a.dO).length:Int) !=((b.dO).length:Int)) then (some false) else (bif (((a.aX).length:Int) !=((b.aX).length:Int)) then (some false) else (bif (((a.dD).length:Int) !=((b.dD).length:Int)) then (some false) else (bif (!(sEq (ly a.Data) (ly b.Data))) then (some false) else (hQ (bA (iY a b) (0:Int)) (oG a b))))))))
def pE (b:(List Nat)) (c:Nat) (a:(Int)):Option ((Int) ⊕ (Bool)) :=
 (bif (decide (a<((b).length:Int))) then ((dC b a).bind fun d=>((fT d c).bind fun e=>(bif e then (bG (some true)) else (some (Sum.inl (IntKind.i64.wrap (a+(1:Int)))))))) else (bG (some false)))
def tD (a:(List Nat)) (b:Nat):Option (Bool) :=
 (bA (pE a b) (0:Int))
def mq (a b c:Nat):Option (Bool) :=
 ((mm a b).bind fun d=>(bif (!d) then ((mm c a).bind fun e=>(some (!e))) else (some false)))
def mR (b:aw) (d:Nat) (a:(Int)):Option ((Int) ⊕ (Unit ⊕ (Bool))) :=
 (bif (decide (a<((b.aX).length:Int))) then ((dC b.aX a).bind fun c=>((mq d c.1 c.2).bind fun e=>(bif e then (bG (bG (some true))) else (some (Sum.inl (IntKind.i64.wrap (a+(1:Int)))))))) else (bG (some (Sum.inl ()))))
def pj (a:aw) (b:Nat) (d:Unit):Option (Bool) :=
 ((tD a.dO b).bind fun c=>(some c))
def qL (a:aw) (b:Nat):Option (Bool) :=
 (hQ (bA (mR a b) (0:Int)) (pj a b))
def og (b c:aw) (a:(Int)):Option ((Int) ⊕ (Unit ⊕ (Bool))) :=
 (bif (decide (a<((b.dD).length:Int))) then ((dC b.dD a).bind fun d=>((tD c.dD d).bind fun e=>(bif e then (bG (bG (some true))) else ((qL c d).bind fun f=>(bif f then (bG (bG (some true))) else (some (Sum.inl (IntKind.i64.wrap (a+(1:Int)))))))))) else (bG (some (Sum.inl ()))))
def ow (b c:aw) (a:(Int)):Option ((Int) ⊕ (Bool)) :=
 (bif (decide (a<((b.dD).length:Int))) then ((dC b.dD a).bind fun d=>((qL c d).bind fun e=>(bif e then (bG (some true)) else (some (Sum.inl (IntKind.i64.wrap (a+(1:Int)))))))) else (bG (some false)))
def qm (a b:aw) (c:Unit):Option (Bool) :=
 (bA (ow a b) (0:Int))
def tT (a b:aw):Option (Bool) :=
 (hQ (bA (og a b) (0:Int)) (qm b a))
def oc (d:(List aw)) (e:cy) (s:((List aw)×Int)):Option (((List aw)×Int) ⊕ ((List aw))) :=
 match s with | (a,b)=>(bif (decide (b<((d).length:Int))) then ((dC d b).bind fun c=>(bif (!((c.ID.ab==e.ab)&&(c.ID.Seq==e.Seq))) then (gd (room a ([c])) (some (Sum.inl ((a++([c])),(IntKind.i64.wrap (b+(1:Int))))))) else (some (Sum.inl (a,(IntKind.i64.wrap (b+(1:Int)))))))) else (bG (some a)))
def sf (a:(List aw)) (b:cy):Option ((List aw)) :=
 (bA (oc a b) ([],(0:Int)))
def ot (b:(List aw)) (c:aw) (a:(Int)):Option ((Int) ⊕ (Unit ⊕ ((List aw)×Bool))) :=
 (bif (decide (a<((b).length:Int))) then ((dC b a).bind fun d=>(bif (!((d.ID.ab==c.ID.ab)&&(d.ID.Seq==c.ID.Seq))) then ((tT d c).bind fun e=>(bif e then (bG (bG (some (b,false)))) else (some (Sum.inl (IntKind.i64.wrap (a+(1:Int))))))) else (some (Sum.inl (IntKind.i64.wrap (a+(1:Int))))))) else (bG (some (Sum.inl ()))))
def sv (a:((List aw))):Option ((List aw)×Bool) :=
 (some (a,true))
def qe (c:(List aw)) (a:aw) (d:Unit):Option ((List aw)×Bool) :=
 ((((sf c a.ID).bind fun b=>(gd (room b ([a])) (some (b++([a])))))).bind (sv))
def rZ (a:(List aw)) (b:aw):Option ((List aw)×Bool) :=
 (hQ (bA (ot a b) (0:Int)) (qe a b))
def fp (a:aq) (c:aw) (d:Unit):Option (Int×aq) :=
 ((rZ a.H c).bind fun b=>(bif (!b.2) then (some ((8:Int),a)) else (some ((0:Int),({a with H:=b.1}:aq)))))
def pS (c:Bool) (b:aw) (a:aq) (d:Unit):Option (Int×aq) :=
 (hQ (bif (!c) then (bif (b.ae !=a.ae) then (bG (some ((9:Int),a))) else (some (Sum.inl ()))) else (some (Sum.inl ()))) (fp a b))
def pK (c:Bool) (a:aw) (b:aq) (d:Int) (e:Unit):Option (Int×aq) :=
 (hQ (bif c then (bif (decide (a.ID.ab<(9223372036854775808:Int))) then (bG (some ((8:Int),b))) else (bif (decide (a.ae≤d)) then (bG (some ((8:Int),b))) else (some (Sum.inl ())))) else (some (Sum.inl ()))) (pS c a b))
def pO (a:aw) (b:aq) (s:(Int×Int×Int×(List Nat)×(List (Nat×Nat))×(List Nat)×(List Int)×Bool)):Option (Int×aq) :=
 match s with | (e,f,c,g,h,i,j,d)=>(hQ (bif d then ((lD ({ID:=({ab:=e,Seq:=f}:cy),ae:=c,dO:=g,aX:=h,dD:=i,Data:=j}:aw) a).bind fun k=>(bif k then (bG (some ((0:Int),b))) else (some (Sum.inl ())))) else (some (Sum.inl ()))) (pK d a b c))
def ld (b:aq) (c:aw):Option (Int×aq) :=
 ((((nI b.H c.ID).bind fun a=>(some (a.1.ID.ab,a.1.ID.Seq,a.1.ae,a.1.dO,a.1.aX,a.1.dD,a.1.Data,a.2)))).bind (pO c b))
def oe (d:(List aP)) (f:Nat) (g:Int) (s:(Int×Int)):Option ((Int×Int) ⊕ (Int)) :=
 match s with | (b,a)=>(bif (decide (a<((d).length:Int))) then ((dC d a).bind fun c=>((fT c.At f).bind fun h=>(bif h then (bif (decide (c.ae≤g)) then (bif (decide (b<(0:Int))) then (some (Sum.inl (a,(IntKind.i64.wrap (a+(1:Int)))))) else ((dC d b).bind fun e=>(bif (decide (e.ae<c.ae)) then (some (Sum.inl (a,(IntKind.i64.wrap (a+(1:Int)))))) else (bif (e.ae==c.ae) then (bif (decide (e.Index<c.Index)) then (some (Sum.inl (a,(IntKind.i64.wrap (a+(1:Int)))))) else (some (Sum.inl (b,(IntKind.i64.wrap (a+(1:Int))))))) else (some (Sum.inl (b,(IntKind.i64.wrap (a+(1:Int)))))))))) else (some (Sum.inl (b,(IntKind.i64.wrap (a+(1:Int))))))) else (some (Sum.inl (b,(IntKind.i64.wrap (a+(1:Int))))))))) else (bG (some b)))
def tV (a:(List aP)) (b:Nat) (c:Int):Option (Int) :=
 (bA (oe a b c) (((-1):Int),(0:Int)))
def lc (a:(List aP)) (d:Nat) (e:Int):Option (cC) :=
 ((tV a d e).bind fun b=>(bif (decide (b<(0:Int))) then (some ({Has:=false,Val:=[]}:cC)) else ((dC a b).bind fun c=>(bif c.Del then (some ({Has:=false,Val:=[]}:cC)) else (some ({Has:=true,Val:=c.Val}:cC))))))
def nC (b:(List Nat)) (c:(List aP)) (d:Int) (a:(Int)):Option ((Int) ⊕ (Int)) :=
 (bif (decide (a<((b).length:Int))) then ((dC b a).bind fun e=>((dC c d).bind fun f=>((mm e f.At).bind fun g=>(bif g then (some (Sum.inl (IntKind.i64.wrap (a+(1:Int))))) else (bG (some a)))))) else (bG (some a)))
def nG (a:(List Nat)) (f:(List aP)) (c:Int) (b:(Int)):Option (((List Nat)×Int) ⊕ ((List Nat))) :=
 (bif (decide (b<((a).length:Int))) then ((dC a b).bind fun g=>((dC f c).bind fun d=>((fT g d.At).bind fun h=>(bif h then (some (Sum.inl (a,(IntKind.i64.wrap (c+(1:Int)))))) else (gd (fits a (0:Int) b) (gd (room ([]:List Nat) (lL a (0:Int) b)) (gd (room (lL a (0:Int) b) ([d.At])) (gd (fits a b (((a).length:Nat):Int)) (gd (room ((lL a (0:Int) b)++([d.At])) (lL a b (((a).length:Nat):Int))) (some (Sum.inl ((((lL a (0:Int) b)++([d.At]))++(lL a b (((a).length:Nat):Int))),(IntKind.i64.wrap (c+(1:Int))))))))))))))) else (gd (fits a (0:Int) b) (gd (room ([]:List Nat) (lL a (0:Int) b)) ((dC f c).bind fun e=>(gd (room (lL a (0:Int) b) ([e.At])) (gd (fits a b (((a).length:Nat):Int)) (gd (room ((lL a (0:Int) b)++([e.At])) (lL a b (((a).length:Nat):Int))) (some (Sum.inl ((((lL a (0:Int) b)++([e.At]))++(lL a b (((a).length:Nat):Int))),(IntKind.i64.wrap (c+(1:Int)))))))))))))
def pC (a:(List aP)) (s:((List Nat)×Int)):Option (((List Nat)×Int) ⊕ ((List Nat))) :=
 match s with | (b,c)=>(bif (decide (c<((a).length:Int))) then (((bA (nC b a c) (0:Int))).bind (nG b a c)) else (bG (some b)))
def vi (a:(List aP)):Option ((List Nat)) :=
 (bA (pC a) ([],(0:Int)))
def od (e:((List Nat))) (f:Int) (g:(List aP)) (h:Int) (i j:Nat) (s:((List bP)×Int)):Option (((List bP)×Int) ⊕ ((List bP))) :=
 match s with | (a,b)=>(bif (decide (b<((e).length:Int))) then (bif (decide (((a).length:Int)<f)) then ((dC e b).bind fun c=>((lc g c h).bind fun d=>(bif d.Has then ((mq c i j).bind fun k=>(bif k then (gd (room a ([({At:=c,Val:=d.Val}:bP)])) (some (Sum.inl ((a++([({At:=c,Val:=d.Val}:bP)])),(IntKind.i64.wrap (b+(1:Int))))))) else (some (Sum.inl (a,(IntKind.i64.wrap (b+(1:Int)))))))) else (some (Sum.inl (a,(IntKind.i64.wrap (b+(1:Int))))))))) else (bG (some a))) else (bG (some a)))
def oV (a:(List aP)) (b c:Nat) (d e:Int):Option ((List bP)) :=
 ((vi a).bind fun f=>(bA (od f e a d b c) ([],(0:Int))))
def jd (c:aw) (e:aq) (s:((List cC)×Int)):Option (((List cC)×Int) ⊕ ((List cC))) :=
 match s with | (a,b)=>(bif (decide (b<((c.dO).length:Int))) then ((dC c.dO b).bind fun f=>((lc e.V f (18446744073709551615:Int)).bind fun d=>(gd (room a ([d])) (some (Sum.inl ((a++([d])),(IntKind.i64.wrap (b+(1:Int))))))))) else (bG (some a)))
def gT (c:aw) (f:aq) (g:(List cC)) (s:((List (List bP))×Int)):Option (((List (List bP))×Int) ⊕ (bB)) :=
 match s with | (a,b)=>(bif (decide (b<((c.aX).length:Int))) then ((dC c.aX b).bind fun d=>((oV f.V d.1 d.2 (18446744073709551615:Int) (64:Int)).bind fun e=>(gd (room a ([e])) (some (Sum.inl ((a++([e])),(IntKind.i64.wrap (b+(1:Int))))))))) else (bG (some ({E:=(0:Int),ae:=(0:Int),Index:=(0:Int),dT:=g,aX:=a}:bB))))
def mP (a:aw) (b:aq) (c:((List cC))):Option (bB) :=
 (bA (gT a b c) ([],(0:Int)))
def kZ (a:aq) (b:aw):Option (bB) :=
 (((bA (jd b a) ([],(0:Int)))).bind (mP b a))
def pD (e:(List aP)) (d:aP) (s:((List aP)×Int)):Option (((List aP)×Int) ⊕ ((List aP))) :=
 match s with | (b,c)=>(bif (decide (c<((e).length:Int))) then ((dC e c).bind fun a=>((fT a.At d.At).bind fun f=>(bif (!f) then (gd (room b ([a])) (some (Sum.inl ((b++([a])),(IntKind.i64.wrap (c+(1:Int))))))) else (bif (a.ae !=d.ae) then (gd (room b ([a])) (some (Sum.inl ((b++([a])),(IntKind.i64.wrap (c+(1:Int))))))) else (bif (a.Index !=d.Index) then (gd (room b ([a])) (some (Sum.inl ((b++([a])),(IntKind.i64.wrap (c+(1:Int))))))) else (some (Sum.inl (b,(IntKind.i64.wrap (c+(1:Int))))))))))) else (bG (some b)))
def tx (b:(List aP)) (a:aP) (c:((List Int))):Option ((List aP)) :=
 (gd (room b ([({a with Val:=c}:aP)])) (some (b++([({a with Val:=c}:aP)]))))
def tA (a:aP) (b:((List aP))):Option ((List aP)) :=
 (((bif a.Del then (some ([])) else (some a.Val))).bind (tx b a))
def rX (b:(List aP)) (a:aP):Option ((List aP)) :=
 (((bA (pD b a) ([],(0:Int)))).bind (tA a))
def mC (b:(List dg)) (c:Int) (a:(Int)):Option ((Int) ⊕ (dg)) :=
 (bif (decide (a<((b).length:Int))) then ((dC b a).bind fun d=>(bif (d.ab==c) then (bG (some d)) else (some (Sum.inl (IntKind.i64.wrap (a+(1:Int))))))) else (bG (some ({ab:=c,Seq:=(0:Int),R:=ct}:dg))))
def kr (a:(List dg)) (b:Int):Option (dg) :=
 (bA (mC a b) (0:Int))
def kM (d:(List dg)) (e:Int) (s:((List dg)×Int)):Option (((List dg)×Int) ⊕ ((List dg)×Int)) :=
 match s with | (a,b)=>(bif (decide (b<((d).length:Int))) then ((dC d b).bind fun c=>(bif (c.ab !=e) then (gd (room a ([c])) (some (Sum.inl ((a++([c])),(IntKind.i64.wrap (b+(1:Int))))))) else (some (Sum.inl (a,(IntKind.i64.wrap (b+(1:Int)))))))) else (bG (some (a,(0:Int)))))
def qw (a:(List dg)) (b c:Int) (d:bB):Option ((List dg)×Int) :=
 (bif (c==(0:Int)) then (some (a,(1:Int))) else ((kr a b).bind fun e=>(bif (decide (e.Seq≥c)) then (some (a,(10:Int))) else (bA (kM a b) ([({ab:=b,Seq:=c,R:=d}:dg)],(0:Int))))))
def gZ (d:aq) (e:cy) (s:((List bI)×Int)):Option (((List bI)×Int) ⊕ ((List bI))) :=
 match s with | (a,b)=>(bif (decide (b<((d.Open).length:Int))) then ((dC d.Open b).bind fun c=>(bif (!((c.ID.ab==e.ab)&&(c.ID.Seq==e.Seq))) then (gd (room a ([c])) (some (Sum.inl ((a++([c])),(IntKind.i64.wrap (b+(1:Int))))))) else (some (Sum.inl (a,(IntKind.i64.wrap (b+(1:Int)))))))) else (bG (some a)))
def lF (a:aq) (b:((List bI))):Option (aq) :=
 (some ({a with Open:=b}:aq))
def iu (a:aq) (b:cy):Option (aq) :=
 (((bA (gZ a b) ([],(0:Int)))).bind (lF a))
def lK (a:(aq)) (b:aG) (c d:Int) (e:((List dN))):Option (aq) :=
 (gd (room a.Open ([({b with E:=c,Index:=d,dM:=e}:bI)])) (some ({a with Open:=(a.Open++([({b with E:=c,Index:=d,dM:=e}:bI)]))}:aq)))
def lJ (a:aG) (b c:Int) (d:(List cC)) (e:(List (List bP))) (f:(aq)):Option (bU×aq) :=
 (some (({Kind:=(4:Int),ID:=a.ID,R:=({E:=b,ae:=a.ae,Index:=c,dT:=d,aX:=e}:bB)}:bU),f))
def lH (a:aq) (b:aG) (c d:Int) (f:(List cC)) (g:(List (List bP))) (j:Unit):Option (bU×aq) :=
 ((qw a.A b.ID.ab b.ID.Seq ({E:=c,ae:=b.ae,Index:=d,dT:=f,aX:=g}:bB)).bind fun e=>(bif (e.2 !=(0:Int)) then ((kr a.A b.ID.ab).bind fun h=>(bif (decide (h.Seq>b.ID.Seq)) then (some (({Kind:=(4:Int),ID:=b.ID,R:=({E:=(10:Int),ae:=(0:Int),Index:=(0:Int),dT:=[],aX:=[]}:bB)}:bU),a)) else (some (cE,a)))) else (((bif (b.bY !=(0:Int)) then ((iu ({a with A:=e.1}:aq) b.ID).bind fun i=>(((bif (c==(0:Int)) then (some b.dM) else (some ([])))).bind (lK i b c d))) else (some ({a with A:=e.1}:aq)))).bind (lJ b c d f g))))
def jr (a:aG) (b:aq) (d:Int) (s:(Int×(List cC)×(List (List bP)))):Option (bU×aq) :=
 match s with | (c,e,f)=>(hQ (bif (c !=(0:Int)) then (bif (decide (a.ID.ab≥(9223372036854775808:Int))) then (bG (some (cE,b))) else (some (Sum.inl ()))) else (some (Sum.inl ()))) (lH b a c d e f))
def jw (b:aq) (c:Int) (a:aG):Option (bU×aq) :=
 (((bif (a.R.E==(0:Int)) then (bif (a.ae !=b.ae) then (some ((9:Int),[],[])) else (some (a.R.E,a.R.dT,a.R.aX))) else (some (a.R.E,a.R.dT,a.R.aX)))).bind (jr a b c))
def lR (b:(List dz)) (a:dz) (d:Int) (s:(Bool×Int)):Option ((Int×(List dz)×Bool) ⊕ ((List dz)×Bool)) :=
 match s with | (e,c)=>(gd (room b ([({a with To:=c}:dz)])) (some (Sum.inl ((IntKind.i64.wrap (d+(1:Int))),(b++([({a with To:=c}:dz)])),e))))
def kw (d:(List dz)) (f g:Int) (s:(Int×(List dz)×Bool)):Option ((Int×(List dz)×Bool) ⊕ ((List dz)×Bool)) :=
 match s with | (b,e,c)=>(bif (decide (b<((d).length:Int))) then ((dC d b).bind fun a=>(((bif (a.R.ID==f) then (bif (a.To==(0:Int)) then (some (true,g)) else (some (c,a.To))) else (some (c,a.To)))).bind (lR e a b))) else (bG (some (e,c))))
def te (s:((List dz)×Bool)):Option ((List dz)×Bool) :=
 match s with | (a,b)=>(some (a,b))
def nS (a:(List dz)) (b:Int) (c:(Int)):Option ((List dz)×Bool) :=
 (((bA (kw a b c) ((0:Int),[],false))).bind (te))
def pw (b:(List dz)) (c a:Int):Option ((List dz)×Bool) :=
 (((bif (a==(0:Int)) then (some (1:Int)) else (some a))).bind (nS b c))
def tt (a:(List Int)) (c:Int) (b:(Int)):Option (((List Int)×Int) ⊕ ((List Int))) :=
 (gd (room a ([b])) (some (Sum.inl ((a++([b])),(IntKind.i64.wrap (c+(1:Int)))))))
def lX (d:Int) (b:bK) (s:((List Int)×Int)):Option (((List Int)×Int) ⊕ ((List Int))) :=
 match s with | (c,a)=>(bif (decide (a<d)) then (bif (!b.Del) then (((bif (decide (a<((b.Val).length:Int))) then ((dC b.Val a).bind fun e=>(some e)) else (some (0:Int)))).bind (tt c a)) else (bG (some c))) else (bG (some c)))
def rq (a:bK) (b:((List Int))):Option (bK) :=
 (some ({a with Val:=b}:bK))
def uR (a:bK) (b:Int):Option (bK) :=
 (((bA (lX b a) ([],(0:Int)))).bind (rq a))
def gN (e:aq) (f:aG) (s:(Int×Int×(List eO))):Option ((Int×Int×(List eO)) ⊕ (Int×(List eO))) :=
 match s with | (d,a,b)=>(bif (decide (a<((e.pT).length:Int))) then ((dC e.pT a).bind fun c=>(bif (c.ap !=f.ap.ID) then (gd (room b ([c])) (some (Sum.inl (d,(IntKind.i64.wrap (a+(1:Int))),(b++([c])))))) else (bif (c.ae==f.ae) then (some (Sum.inl (c.N,(IntKind.i64.wrap (a+(1:Int))),b))) else (some (Sum.inl (d,(IntKind.i64.wrap (a+(1:Int))),b)))))) else (bG (some (d,b))))
def gR (d:aq) (e:aG) (s:((List dw)×Int)):Option (((List dw)×Int) ⊕ ((List dw))) :=
 match s with | (a,b)=>(bif (decide (b<((d.Out).length:Int))) then ((dC d.Out b).bind fun c=>(bif (c.To==e.ap.To) then (gd (room a ([c])) (some (Sum.inl ((a++([c])),(IntKind.i64.wrap (b+(1:Int))))))) else (some (Sum.inl (a,(IntKind.i64.wrap (b+(1:Int)))))))) else (bG (some a)))
def mK (a:aG) (b c:Int) (d:(aq)):Option (bU×aq) :=
 (some (({Kind:=(4:Int),ID:=a.ID,R:=({E:=b,ae:=a.ae,Index:=c,dT:=[],aX:=[]}:bB)}:bU),d))
def eY (a:aq) (b:aG) (e:Int) (f:(List eO)) (g:Int) (c:(Int)):Option (bU×aq) :=
 ((qw a.A b.ID.ab b.ID.Seq ({E:=c,ae:=b.ae,Index:=e,dT:=[],aX:=[]}:bB)).bind fun d=>(bif (d.2 !=(0:Int)) then ((kr a.A b.ID.ab).bind fun j=>(bif (decide (j.Seq>b.ID.Seq)) then (some (({Kind:=(4:Int),ID:=b.ID,R:=({E:=(10:Int),ae:=(0:Int),Index:=(0:Int),dT:=[],aX:=[]}:bB)}:bU),a)) else (some (cE,a)))) else (((bif (c==(0:Int)) then (gd (room f ([({ap:=b.ap.ID,ae:=b.ae,N:=(IntKind.i64.wrap (g+(1:Int)))}:eO)])) ((dC b.cw (0:Int)).bind fun k=>((bA (gR a b) ([],(0:Int))).bind fun h=>((uR k a.zJ).bind fun i=>(gd (room a.Out ([({To:=b.ap.To,N:=(IntKind.u64.wrap (IntKind.i64.wrap (((h).length:Int)+(1:Int)))),ap:=b.ap.ID,ae:=b.ae,W:=i}:dw)])) (some ({a with A:=d.1,Out:=(a.Out++([({To:=b.ap.To,N:=(IntKind.u64.wrap (IntKind.i64.wrap (((h).length:Int)+(1:Int)))),ap:=b.ap.ID,ae:=b.ae,W:=i}:dw)])),pT:=(f++([({ap:=b.ap.ID,ae:=b.ae,N:=(IntKind.i64.wrap (g+(1:Int)))}:eO)]))}:aq))))))) else (some ({a with A:=d.1}:aq)))).bind (mK b c e))))
def kF (b:Int) (c:aG) (d:aq) (e:Int) (f:(List eO)) (a:(Int)):Option (bU×aq) :=
 (((bif (a==(0:Int)) then (bif (decide (b≥c.ap.cx)) then (some (13:Int)) else (some a)) else (some a))).bind (eY d c e f b))
def kJ (b:aG) (c:Int) (d:aq) (e:Int) (f:(List eO)) (a:(Int)):Option (bU×aq) :=
 (((bif (a==(0:Int)) then (bif (((b.cw).length:Int) !=(1:Int)) then (some (1:Int)) else (some a)) else (some a))).bind (kF c b d e f))
def mO (a:aG) (b:aq) (c:Int) (s:(Int×(List eO))):Option (bU×aq) :=
 match s with | (d,e)=>(((bif (a.R.E==(0:Int)) then (bif (a.ae !=b.ae) then (some (9:Int)) else (some a.R.E)) else (some a.R.E))).bind (kJ a d b c e))
def kU (a:aq) (c:Int) (b:aG):Option (bU×aq) :=
 (((bA (gN a b) ((0:Int),(0:Int),[]))).bind (mO b a c))
def mg (b:(Int×aq)) (a:(bU)):Option (bU×aq) :=
 (some (({a with R:=({a.R with E:=b.1}:bB)}:bU),b.2))
def eI (e:Bool) (b:aG) (s:(aq×Int)):Option ((aq×Int) ⊕ (aq)) :=
 match s with | (a,c)=>(bif e then (bif (b.E==(0:Int)) then (bif (decide (c<((b.cw).length:Int))) then ((dC b.cw c).bind fun d=>((rX a.V ({d with ae:=b.ae,Index:=b.Index}:aP)).bind fun f=>(some (Sum.inl (({a with V:=f}:aq),(IntKind.i64.wrap (c+(1:Int)))))))) else (bG (some a))) else (bG (some a))) else (bG (some a)))
def pq (a:aG) (b:(aq)):Option (bU×aq) :=
 (some (({Kind:=(3:Int),ID:=a.ID,R:=ct}:bU),b))
def jM (a:aq) (b:aG) (c:(Bool)):Option (bU×aq) :=
 ((sf a.H b.ID).bind fun d=>(((bA (eI c b) (({a with H:=d}:aq),(0:Int)))).bind (pq b)))
def dq (a:aq) (e:Int) (b:aG):Option (bU×aq) :=
 (bif (b.Kind==(1:Int)) then (bif (b.ae !=a.ae) then (some (cE,a)) else ((kt a).bind fun h=>(bif (!h) then (some (cE,a)) else (bif (decide ((IntKind.u64.wrap (a.ae+(1:Int)))>(9:Int))) then none else (some (({Kind:=(1:Int),ID:=({ab:=(0:Int),Seq:=(0:Int)}:cy),R:=ct}:bU),({a with ae:=(IntKind.u64.wrap (a.ae+(1:Int)))}:aq))))))) else (bif (b.Kind==(2:Int)) then ((ld a b.br).bind fun c=>(((bif (c.1==(0:Int)) then ((kZ c.2 b.br).bind fun i=>(some ({Kind:=(2:Int),ID:=b.br.ID,R:=i}:bU))) else (some ({Kind:=(2:Int),ID:=b.br.ID,R:=ct}:bU)))).bind (mg c))) else (bif (b.Kind==(3:Int)) then ((((nI a.H b.ID).bind fun j=>(some j.2))).bind (jM a b)) else (bif (b.Kind==(4:Int)) then ((jw a e b).bind fun f=>(some (f.1,f.2))) else (bif (b.Kind==(5:Int)) then ((iu a b.ID).bind fun k=>(some (cE,k))) else (bif (b.Kind==(6:Int)) then ((pw a.B b.ap.ID a.ae).bind fun d=>(bif b.On then (gd (room d.1 ([({R:=b.ap,dn:=a.ae,To:=(0:Int)}:dz)])) (some (cE,({a with B:=(d.1++([({R:=b.ap,dn:=a.ae,To:=(0:Int)}:dz)]))}:aq)))) else (some (cE,({a with B:=d.1}:aq))))) else (bif (b.Kind==(7:Int)) then ((kU a e b).bind fun g=>(some (g.1,g.2))) else (some (cE,a)))))))))
def gV (b e:(List cC)) (a:(Int)):Option ((Int) ⊕ (Bool)) :=
 (bif (decide (a<((b).length:Int))) then ((dC b a).bind fun c=>((dC e a).bind fun d=>(bif (!(c.Has==d.Has)) then none else (bif (!(sEq (ly c.Val) (ly d.Val))) then none else (some (Sum.inl (IntKind.i64.wrap (a+(1:Int))))))))) else (bG (some true)))
def ja (a b:(List cC)):Option (Bool) :=
 (bif (((a).length:Int) !=((b).length:Int)) then none else (bA (gV a b) (0:Int)))
def ie (b e:(List bP)) (a:(Int)):Option ((Int) ⊕ (Bool)) :=
 (bif (decide (a<((b).length:Int))) then ((dC b a).bind fun c=>((dC e a).bind fun d=>((fT c.At d.At).bind fun f=>(bif (!f) then none else (bif (!(sEq (ly c.Val) (ly d.Val))) then none else (some (Sum.inl (IntKind.i64.wrap (a+(1:Int)))))))))) else (bG (some true)))
def jm (a b:(List bP)):Option (Bool) :=
 (bif (((a).length:Int) !=((b).length:Int)) then none else (bA (ie a b) (0:Int)))
def ir (b c:bB) (a:(Int)):Option ((Int) ⊕ (Bool)) :=
 (bif (decide (a<((b.aX).length:Int))) then ((dC b.aX a).bind fun d=>((dC c.aX a).bind fun e=>((jm d e).bind fun f=>(bif (!f) then none else (some (Sum.inl (IntKind.i64.wrap (a+(1:Int))))))))) else (bG (some true)))
def gJ (a b:bB):Option (Bool) :=
 (bif (a.E !=b.E) then none else (bif (a.ae !=b.ae) then none else (bif (a.Index !=b.Index) then none else ((ja a.dT b.dT).bind fun c=>(bif (!c) then none else (bif (((a.aX).length:Int) !=((b.aX).length:Int)) then none else (bA (ir a b) (0:Int))))))))
def mX (a b:bU):Option (Bool) :=
 (bif (a.Kind==b.Kind) then (bif ((a.ID.ab==b.ID.ab)&&(a.ID.Seq==b.ID.Seq)) then ((gJ a.R b.R).bind fun c=>(some c)) else none) else none)
def eH (a:(List bI)):Option ((List bI)) :=
 gd (room ([]:(List bI)) a) (some a)
def nT (a:(Option ai)):Option ((List bI)) :=
 (match a with | none=>none | some b=>((eH b.open_).bind fun c=>(some c)))
def gS (d e:(List bK)) (a:(Int)):Option ((Int) ⊕ (Bool)) :=
 (bif (decide (a<((d).length:Int))) then ((dC d a).bind fun b=>((dC e a).bind fun c=>((fT b.At c.At).bind fun f=>(bif (!f) then none else (bif (!(b.Del==c.Del)) then none else (bif (!(sEq (ly b.Val) (ly c.Val))) then none else (some (Sum.inl (IntKind.i64.wrap (a+(1:Int))))))))))) else (bG (some true)))
def iC (a b:(List bK)):Option (Bool) :=
 (bif (((a).length:Int) !=((b).length:Int)) then none else (bA (gS a b) (0:Int)))
def fG (b f:bI) (s:(Bool×Int)):Option ((Bool×Int) ⊕ (Bool)) :=
 match s with | (c,a)=>(bif (decide (a<((b.dM).length:Int))) then (bif c then ((dC b.dM a).bind fun d=>((dC f.dM a).bind fun e=>(bif (d.oD==e.oD) then ((iC d.cw e.cw).bind fun g=>(some (Sum.inl (g,(IntKind.i64.wrap (a+(1:Int))))))) else (some (Sum.inl (false,(IntKind.i64.wrap (a+(1:Int))))))))) else (some (Sum.inl (false,(IntKind.i64.wrap (a+(1:Int))))))) else (bG (some c)))
def nL (b:Bool) (a:Int) (c:(Bool)):Option ((Bool×Int) ⊕ ((Int) ⊕ (Bool))) :=
 (bif b then (some (Sum.inl (true,(IntKind.i64.wrap (a+(1:Int)))))) else (some (Sum.inl (c,(IntKind.i64.wrap (a+(1:Int)))))))
def gL (e g:(List bI)) (f:Int) (s:(Bool×Int)):Option ((Bool×Int) ⊕ ((Int) ⊕ (Bool))) :=
 match s with | (b,a)=>(bif (decide (a<((e).length:Int))) then ((dC g f).bind fun c=>((dC e a).bind fun d=>(bif ((c.ID.ab==d.ID.ab)&&(c.ID.Seq==d.ID.Seq)) then (bif (c.E==d.E) then (bif (c.ae==d.ae) then (bif (c.Index==d.Index) then (bif (c.bY==d.bY) then (bif (((c.dM).length:Int)==((d.dM).length:Int)) then (((bA (fG c d) (true,(0:Int)))).bind (nL b a)) else (some (Sum.inl (b,(IntKind.i64.wrap (a+(1:Int))))))) else (some (Sum.inl (b,(IntKind.i64.wrap (a+(1:Int))))))) else (some (Sum.inl (b,(IntKind.i64.wrap (a+(1:Int))))))) else (some (Sum.inl (b,(IntKind.i64.wrap (a+(1:Int))))))) else (some (Sum.inl (b,(IntKind.i64.wrap (a+(1:Int))))))) else (some (Sum.inl (b,(IntKind.i64.wrap (a+(1:Int))))))))) else (bG (bif (!b) then none else (some (Sum.inl (IntKind.i64.wrap (f+(1:Int))))))))
def iR (a c:(List bI)) (b:(Int)):Option ((Int) ⊕ (Bool)) :=
 (bif (decide (b<((a).length:Int))) then (bA (gL c a b) (false,(0:Int))) else (bG (some true)))
def kI (a b:(List bI)):Option (Bool) :=
 (bif (((a).length:Int) !=((b).length:Int)) then none else (bA (iR a b) (0:Int)))
def jt (d:(Int)) (e:bN) (s:((List cy)×Int)):Option (((List cy)×Int) ⊕ ((List cy))) :=
 match s with | (a,b)=>(bif (decide (b<d)) then ((dC e.l b).bind fun c=>(gd (room a ([c.ID])) (some (Sum.inl ((a++([c.ID])),(IntKind.i64.wrap (b+(1:Int)))))))) else (bG (some a)))
def kx (b:(Option bN)):Option ((List cy)) :=
 (match b with | none=>none | some a=>((jk (some a)).bind fun c=>(bA (jt c a) ([],(0:Int)))))
def lB (a:(Option ai)):Option ((List cy)) :=
 (match a with | none=>none | some b=>((kx b.ft).bind fun c=>(some c)))
def nM (b:(Option ai)) (c:cy):Option (aw×Bool) :=
 (match b with | none=>none | some d=>((jj d.ft c).bind fun a=>(some (a.1,a.2))))
def qJ (a:Int):Option (Nat) :=
 ((dC ([(0:Nat),(4607182418800017408:Nat),(13830554455654793216:Nat),(4612811918334230528:Nat),(9094988921128908188:Nat),(18318360957983683996:Nat),(4602678819172646912:Nat),(4613937818241073152:Nat)]) (Int.tmod a (8:Int))).bind fun b=>(some b))
def oW (a:(Option ai)) (b:Nat):Option (cC) :=
 (match a with | none=>none | some c=>((fx c.store b (18446744073709551615:Int)).bind fun d=>(some d)))
def ic (c:(Option ai)) (a:Int):Option (Int) :=
 (match c with | none=>none | some b=>(bif (decide (a≥b.cI)) then (some (2:Int)) else (bif (decide ((IntKind.u64.wrap ((IntKind.u64.wrap (a+(1:Int)))+(8:Int)))<b.cI)) then (some (9:Int)) else (some (0:Int)))))
def oU (d:(Option ai)) (e:Nat) (a:Int):Option (cC×Int) :=
 (match d with | none=>none | some b=>((ic (some b) a).bind fun c=>(bif (c !=(0:Int)) then (some (({Has:=false,Val:=[]}:cC),c)) else ((fx b.store e a).bind fun f=>(some (f,(0:Int)))))))
def jY (d:ai) (e:Int) (s:(Int×(List dw))):Option ((Int×(List dw)) ⊕ ((List dw))) :=
 match s with | (a,b)=>(bif (decide (a<((d.out).length:Int))) then ((dC d.out a).bind fun c=>(bif (c.To==e) then (gd (room b ([c])) (some (Sum.inl ((IntKind.i64.wrap (a+(1:Int))),(b++([c])))))) else (some (Sum.inl ((IntKind.i64.wrap (a+(1:Int))),b))))) else (bG (some b)))
def oO (a:(Option ai)) (b:Int):Option ((List dw)) :=
 (match a with | none=>none | some c=>(bA (jY c b) ((0:Int),[])))
def ka (d:aq) (e:Int) (s:((List dw)×Int)):Option (((List dw)×Int) ⊕ ((List dw))) :=
 match s with | (a,b)=>(bif (decide (b<((d.Out).length:Int))) then ((dC d.Out b).bind fun c=>(bif (c.To==e) then (gd (room a ([c])) (some (Sum.inl ((a++([c])),(IntKind.i64.wrap (b+(1:Int))))))) else (some (Sum.inl (a,(IntKind.i64.wrap (b+(1:Int)))))))) else (bG (some a)))
def rj (a:aq) (b:Int):Option ((List dw)) :=
 (bA (ka a b) ([],(0:Int)))
def nK (a:Int) (b:(Bool)):Option ((Int) ⊕ (Bool)) :=
 (bif b then none else (some (Sum.inl (IntKind.i64.wrap (a+(1:Int))))))
def ll (d e:(List dw)) (c:(Int)):Option ((Int) ⊕ (Bool)) :=
 (bif (decide (c<((d).length:Int))) then ((((dC d c).bind fun a=>((dC e c).bind fun b=>(bif (a.To !=b.To) then none else (bif (a.N !=b.N) then none else (bif (a.ap !=b.ap) then none else (bif (a.ae !=b.ae) then none else ((iC ([a.W]) ([b.W])).bind fun f=>(some (!f)))))))))).bind (nK c)) else (bG (some true)))
def nP (a b:(List dw)):Option (Bool) :=
 (bif (((a).length:Int) !=((b).length:Int)) then none else (bA (ll a b) (0:Int)))
def nV (a:(Option ai)) (b:Int):Option (Int) :=
 (match a with | none=>none | some c=>((fH c.last b).bind fun d=>(some d)))
def iO (e:(Option bE)) (f b:Int):Option (bB×Int) :=
 (match e with | none=>none | some c=>((gy (some c) f).bind fun d=>(bif (!d.2) then (some (ct,(2:Int))) else ((dC c.l d.1).bind fun a=>(bif (decide (a.seq<b)) then (some (ct,(2:Int))) else (bif (decide (a.seq>b)) then (some (ct,(10:Int))) else (some (a.r,(0:Int)))))))))
def mr (c:(Option ai)) (a:cy):Option (bB×Int) :=
 (match c with | none=>none | some d=>((iO d.last a.ab a.Seq).bind fun b=>(some (b.1,b.2))))
def iU (d:cg) (e c:Int) (b:(Int)):Option ((Int) ⊕ (dV×Bool)) :=
 (bif (decide (b≥(0:Int))) then ((dC d.l b).bind fun a=>(bif (a.r.ID==e) then (bif (decide (a.from_≤c)) then (bif (a.to_==(0:Int)) then (bG (some (a.r,true))) else (bif (decide (a.to_>c)) then (bG (some (a.r,true))) else (some (Sum.inl (IntKind.i64.wrap (b - (1:Int))))))) else (some (Sum.inl (IntKind.i64.wrap (b - (1:Int)))))) else (some (Sum.inl (IntKind.i64.wrap (b - (1:Int))))))) else (bG (some (dY,false))))
def pi (b:(Option cg)) (c d:Int):Option (dV×Bool) :=
 (match b with | none=>none | some a=>(bA (iU a c d) (IntKind.i64.wrap (((a.l).length:Int) - (1:Int)))))
def jF (b:ai) (c d:Int) (e:Unit):Option (dV×Int) :=
 ((pi b.book c d).bind fun a=>(bif (!a.2) then (some (dY,(12:Int))) else (some (a.1,(0:Int)))))
def nW (d:(Option ai)) (e b:Int):Option (dV×Int) :=
 (match d with | none=>none | some c=>(hQ ((ic (some c) b).bind fun a=>(bif (a !=(0:Int)) then (bif (a !=(9:Int)) then (bG (some (dY,a))) else (some (Sum.inl ()))) else (some (Sum.inl ())))) (jF c e b)))
def oI (k:(List dz)) (m l:Int) (s:(Int×Int×Int×Nat×Nat×Int×Int×Int×Bool)):Option ((Int×Int×Int×Nat×Nat×Int×Int×Int×Bool) ⊕ (Int×Int×Int×Nat×Nat×Int×Int×Bool)) :=
 match s with | (c,d,e,f,g,h,i,b,j)=>(bif (decide (b<((k).length:Int))) then ((dC k b).bind fun a=>(bif (a.R.ID==m) then (bif (decide (a.dn≤l)) then (bif (a.To==(0:Int)) then (some (Sum.inl (a.R.ID,a.R.dn,a.R.To,a.R.Lo,a.R.Hi,a.R.Authority,a.R.cx,(IntKind.i64.wrap (b+(1:Int))),true))) else (bif (decide (l<a.To)) then (some (Sum.inl (a.R.ID,a.R.dn,a.R.To,a.R.Lo,a.R.Hi,a.R.Authority,a.R.cx,(IntKind.i64.wrap (b+(1:Int))),true))) else (some (Sum.inl (c,d,e,f,g,h,i,(IntKind.i64.wrap (b+(1:Int))),j))))) else (some (Sum.inl (c,d,e,f,g,h,i,(IntKind.i64.wrap (b+(1:Int))),j)))) else (some (Sum.inl (c,d,e,f,g,h,i,(IntKind.i64.wrap (b+(1:Int))),j))))) else (bG (some (c,d,e,f,g,h,i,j))))
def xa (s:(Int×Int×Int×Nat×Nat×Int×Int×Bool)):Option (dV×Bool) :=
 match s with | (a,b,c,d,e,f,g,h)=>(some (({ID:=a,dn:=b,To:=c,Lo:=d,Hi:=e,Authority:=f,cx:=g}:dV),h))
def wK (a:(List dz)) (b c:Int):Option (dV×Bool) :=
 (((bA (oI a b c) ((0:Int),(0:Int),(0:Int),(0:Nat),(0:Nat),(0:Int),(0:Int),(0:Int),false))).bind (xa))
def oX (a b:dV):Option (Bool) :=
 (bif (a.ID==b.ID) then (bif (a.dn==b.dn) then (bif (a.To==b.To) then ((fT a.Lo b.Lo).bind fun c=>(bif c then ((fT a.Hi b.Hi).bind fun d=>(bif d then (bif (a.Authority==b.Authority) then (some (a.cx==b.cx)) else none) else none)) else none)) else none) else none) else none)
def sC (a:(aw×Bool)) (b:Int) (s:(Int×Int×Int×(List Nat)×(List (Nat×Nat))×(List Nat)×(List Int)×Bool)):Option ((Int) ⊕ (Unit ⊕ (Bool))) :=
 match s with | (c,d,e,f,g,h,i,j)=>(bif (!a.2) then none else (bif (!j) then none else ((lD a.1 ({ID:=({ab:=c,Seq:=d}:cy),ae:=e,dO:=f,aX:=g,dD:=h,Data:=i}:aw)).bind fun k=>(bif (!k) then none else (some (Sum.inl (IntKind.i64.wrap (b+(1:Int)))))))))
def mD (c:((List cy))) (e:(Option ai)) (f:aq) (b:(Int)):Option ((Int) ⊕ (Unit ⊕ (Bool))) :=
 (bif (decide (b<((c).length:Int))) then ((dC c b).bind fun d=>((nM e d).bind fun g=>((((nI f.H d).bind fun a=>(some (a.1.ID.ab,a.1.ID.Seq,a.1.ae,a.1.dO,a.1.aX,a.1.dD,a.1.Data,a.2)))).bind (sC g b)))) else (bG (some (Sum.inl ()))))
def pZ (a:Int) (b:(Bool)):Option ((Int) ⊕ ((Int) ⊕ (Unit ⊕ (Bool)))) :=
 (bif b then none else (some (Sum.inl (IntKind.u64.wrap (a+(1:Int))))))
def pY (a:(cC×Int)) (c:Int) (d:aq) (b:Int) (e:(Int)):Option ((Int) ⊕ ((Int) ⊕ (Unit ⊕ (Bool)))) :=
 (((bif (a.2 !=e) then none else (bif (a.2==(0:Int)) then ((qJ c).bind fun f=>((lc d.V f b).bind fun g=>((ja ([a.1]) ([g])).bind fun h=>(some (!h))))) else (some false)))).bind (pZ b))
def mE (b:Int) (d:(Option ai)) (c:aq) (a:(Int)):Option ((Int) ⊕ ((Int) ⊕ (Unit ⊕ (Bool)))) :=
 (bif (decide (a<(6:Int))) then ((qJ b).bind fun e=>((oU d e a).bind fun f=>(((bif (decide (a≥c.ae)) then (some (2:Int)) else (bif (decide ((IntKind.u64.wrap (a+(9:Int)))<c.ae)) then (some (9:Int)) else (some (0:Int))))).bind (pY f b c a)))) else (bG (some (Sum.inl (IntKind.i64.wrap (b+(1:Int)))))))
def ss (a:Int) (b:(Option ai)) (c:aq) (d:(Bool)):Option ((Int) ⊕ (Unit ⊕ (Bool))) :=
 (bif d then none else (bA (mE a b c) (0:Int)))
def nY (b:(Option ai)) (c:aq) (a:(Int)):Option ((Int) ⊕ (Unit ⊕ (Bool))) :=
 (bif (decide (a<(8:Int))) then ((((qJ a).bind fun d=>((oW b d).bind fun e=>((qJ a).bind fun f=>((lc c.V f (18446744073709551615:Int)).bind fun g=>((ja ([e]) ([g])).bind fun h=>(some (!h)))))))).bind (ss a b c)) else (bG (some (Sum.inl ()))))
def mY (a:(dV×Int)) (c:(dV×Bool)) (b:Int) (d:(Int)):Option ((Int) ⊕ ((Int) ⊕ (Bool))) :=
 (bif (a.2 !=d) then none else (bif (a.2==(0:Int)) then ((oX a.1 c.1).bind fun e=>(bif (!e) then none else (some (Sum.inl (IntKind.u64.wrap (b+(1:Int))))))) else (some (Sum.inl (IntKind.u64.wrap (b+(1:Int)))))))
def nc (a:Int) (b:aq) (c:(dV×Int)) (d:(dV×Bool)) (e:(Int)):Option ((Int) ⊕ ((Int) ⊕ (Bool))) :=
 (((bif (decide (a≥b.ae)) then (some (2:Int)) else (some e))).bind (mY c d a))
def li (e:(Option ai)) (b:Int) (c:aq) (a:(Int)):Option ((Int) ⊕ ((Int) ⊕ (Bool))) :=
 (bif (decide (a<(4:Int))) then ((nW e (IntKind.u64.wrap b) a).bind fun f=>((wK c.B (IntKind.u64.wrap b) a).bind fun d=>(((bif (!d.2) then (some (12:Int)) else (some (0:Int)))).bind (nc a c f d)))) else (bG (some (Sum.inl (IntKind.i64.wrap (b+(1:Int)))))))
def qZ (a:(Option ai)) (b:Int) (c:aq) (d:Unit):Option ((Int) ⊕ (Bool)) :=
 (bA (li a b c) (0:Int))
def ox (b:(Option ai)) (c:aq) (a:(Int)):Option ((Int) ⊕ (Bool)) :=
 (bif (decide (a<(4:Int))) then ((oO b a).bind fun f=>((rj c a).bind fun g=>((nP f g).bind fun h=>(bif (!h) then none else ((nV b (IntKind.u64.wrap a)).bind fun i=>((kr c.A (IntKind.u64.wrap a)).bind fun j=>(bif (i !=j.Seq) then none else ((kr c.A (IntKind.u64.wrap a)).bind fun d=>((mr b ({ab:=(IntKind.u64.wrap a),Seq:=d.Seq}:cy)).bind fun e=>(hQ (bif (decide (d.Seq>(0:Int))) then (bif (e.2 !=(0:Int)) then none else ((gJ e.1 d.R).bind fun k=>(bif (!k) then none else (some (Sum.inl ()))))) else (some (Sum.inl ()))) (qZ b a c))))))))))) else (bG (some true)))
def uD (a:(Option ai)) (b:aq) (c:Unit):Option (Bool) :=
 (bA (ox a b) (0:Int))
def qf (a:(Option ai)) (b:aq) (c:Unit):Option (Bool) :=
 (hQ (bA (nY a b) (0:Int)) (uD a b))
def tQ (a:(Option ai)) (b:aq):Option (Bool) :=
 ((kX a).bind fun d=>(bif (d !=b.ae) then none else ((ln a).bind fun e=>((kt b).bind fun f=>(bif (!(e==f)) then none else ((nT a).bind fun g=>((kI g b.Open).bind fun h=>(bif (!h) then none else ((lB a).bind fun c=>(bif (((c).length:Int) !=((b.H).length:Int)) then none else (hQ (bA (mD c a b) (0:Int)) (qf a b))))))))))))
def lp (e:aB) (a:Int) (f:aq) (g:((Option ai))):Option ((aB×aq×(Option ai)×Int) ⊕ (((Option ai)×aq) ⊕ (Bool))) :=
 ((gI e).bind fun b=>((df g (IntKind.u64.wrap (IntKind.i64.wrap (a+(1:Int)))) b.1).bind fun c=>((dq f (IntKind.u64.wrap (IntKind.i64.wrap (a+(1:Int)))) b.1).bind fun d=>((mX c.1 d.1).bind fun h=>(bif (!h) then none else (some (Sum.inl (b.2,d.2,c.2,(IntKind.i64.wrap (a+(1:Int)))))))))))
def lm (e:Int) (s:(aB×aq×(Option ai)×Int)):Option ((aB×aq×(Option ai)×Int) ⊕ (((Option ai)×aq) ⊕ (Bool))) :=
 match s with | (f,c,a,b)=>(bif (decide (b<(25:Int))) then (hQ (bif (b==(Int.tmod (IntKind.i64.wrap e) (25:Int))) then ((gU a).bind fun g=>((sD g).bind fun d=>(bif (d.2 !=(0:Int)) then none else (some (Sum.inl (some d.1)))))) else (some (Sum.inl a))) (lp f b c)) else (bG (some (Sum.inl (a,c)))))
def nF (s:((Option ai)×aq)):Option (Bool) :=
 match s with | (a,b)=>((tQ a b).bind fun c=>(some c))
def qs (a:(List Int)) (b:Int):Option (Bool) :=
 (oZ.bind fun c=>(bif (!c) then (oZ.bind fun d=>(some d)) else (bif (decide (((a).length:Int)>(500:Int))) then (oZ.bind fun e=>(some e)) else ((vd (3:Int)).bind fun f=>((xm (3:Int)).bind fun g=>(hQ (bA (lm b) (({L:=a,I:=(0:Int)}:aB),g,(some f),(0:Int))) (nF)))))))
end
end Go.Proofs.YtgnkkopjkgdieaaGreat
