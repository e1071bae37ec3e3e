/- A part of the proof. -/
import Derived.Test.YtgnkkopjkgdieaaGreatLanePlaysGw
set_option linter.unusedVariables false
set_option linter.unusedSimpArgs false
set_option maxRecDepth 100000
set_option maxHeartbeats 4000000
namespace Go.Proofs.YtgnkkopjkgdieaaGreat
open Go Go.V
structure aT where
 Epoch : Int
 Index : Int
 Del : Bool
 Val : (List Int)
structure bR where
 rank : Int
 l : (List aT)
structure cO where
 rows : (List bR)
structure bK where
 Session : Int
 Seq : Int
structure al where
 ID : bK
 Epoch : Int
 Gets : (List Nat)
 Scans : (List (Nat×Nat))
 Puts : (List Nat)
 Data : (List Int)
structure bZ where
 l : (List al)
structure cp where
 Has : Bool
 Val : (List Int)
structure bM where
 At : Nat
 Val : (List Int)
structure bp where
 E : Int
 Epoch : Int
 Index : Int
 Gots : (List cp)
 Scans : (List (List bM))
structure aN where
 session : Int
 seq : Int
 r : bp
structure ck where
 l : (List aN)
structure dr where
 ID : Int
 From : Int
 To : Int
 Lo : Nat
 Hi : Nat
 Authority : Int
 Quota : Int
structure df where
 r : dr
 from_ : Int
 to_ : Int
structure cB where
 l : (List df)
structure bN where
 At : Nat
 Del : Bool
 Val : (List Int)
structure dX where
 Shard : Int
 Writes : (List bN)
structure bA where
 ID : bK
 E : Int
 Epoch : Int
 Index : Int
 Shards : Int
 Parts : (List dX)
structure cW where
 To : Int
 N : Int
 Rule : Int
 Epoch : Int
 W : bN
structure ct where
 kj : Int
 epoch : Int
 n : Int
structure ae where
 wide : Int
 epoch : Int
 store : (Option cO)
 locks : (Option bZ)
 last : (Option ck)
 book : (Option cB)
 open_ : (List bA)
 out : (List cW)
 used : (List ct)
structure aC where
 Kind : Int
 ID : bK
 Epoch : Int
 Index : Int
 E : Int
 Hold : al
 Writes : (List bN)
 R : bp
 Shards : Int
 Parts : (List dX)
 Rule : dr
 On : Bool
structure bh where
 Kind : Int
 ID : bK
 R : bp
structure aB where
 At : Nat
 Epoch : Int
 Index : Int
 Del : Bool
 Val : (List Int)
structure cq where
 Session : Int
 Seq : Int
 R : bp
structure cD where
 R : dr
 From : Int
 To : Int
structure dy where
 Rule : Int
 Epoch : Int
 N : Int
structure ai where
 Wide : Int
 Epoch : Int
 V : (List aB)
 H : (List al)
 A : (List cq)
 B : (List cD)
 Open : (List bA)
 Out : (List cW)
 Used : (List dy)
structure ak where
 L : (List Int)
 I : Int
structure bX where
 p : (List Int)
 bad : Bool
def bI:bp:={E:=(0:Int),Epoch:=(0:Int),Index:=(0:Int),Gots:=[],Scans:=[]}
def bG:bh:={Kind:=(0:Int),ID:=({Session:=(0:Int),Seq:=(0:Int)}:bK),R:=bI}
def ea:al:={ID:=({Session:=(0:Int),Seq:=(0:Int)}:bK),Epoch:=(0:Int),Gets:=[],Scans:=[],Puts:=[],Data:=[]}
def eB:dr:={ID:=(0:Int),From:=(0:Int),To:=(0:Int),Lo:=(0:Nat),Hi:=(0:Nat),Authority:=(0:Int),Quota:=(0:Int)}
noncomputable def ud:Option (cO) :=
 (some ({rows:=[]}:cO))
noncomputable def sJ:Option (bZ) :=
 (some ({l:=[]}:bZ))
noncomputable def qb:Option (ck) :=
 (some ({l:=[]}:ck))
noncomputable def qS:Option (cB) :=
 (some ({l:=[]}:cB))
noncomputable def qC (a:Int):Option (ae) :=
 (ud.bind fun b=>(sJ.bind fun c=>(qb.bind fun d=>(qS.bind fun e=>(some ({wide:=a,epoch:=(1:Int),store:=(some b),locks:=(some c),last:=(some d),book:=(some e),open_:=[],out:=[],used:=[]}:ae))))))
noncomputable def eR (b:bZ) (c:Int) (a:(Int)):Option ((Int) ⊕ (Int)) :=
 (bif (decide (a<((b.l).length:Int))) then ((da b.l a).bind fun d=>((some ()).bind fun _=>(bif (decide (d.Epoch≤c)) then (bt (some a)) else (some (Sum.inl (IntKind.i64.wrap (a+(1:Int)))))))) else (bt (some ((-1):Int))))
noncomputable def eJ (a:(Option bZ)) (b:Int):Option (Bool) :=
 (match a with | none=>none | some c=>(((br (eR c b) (0:Int)).bind fun d=>(some (decide (d≥(0:Int))))).bind fun e=>(some e)))
noncomputable def jc (b:(Option ae)):Option (Bool) :=
 (match b with | none=>none | some a=>((eJ a.locks a.epoch).bind fun c=>(some (!c))))
noncomputable def iy (b:(Option ae)) (c:aC):Option (bh×(Option ae)) :=
 (match b with | none=>none | some a=>(bif (c.Epoch !=a.epoch) then (some (bG,(some a))) else ((jc (some a)).bind fun d=>(bif (!d) then (some (bG,(some a))) else (bif (decide ((IntKind.u64.wrap (a.epoch+(1:Int)))>(9:Int))) then none else (some (({Kind:=(1:Int),ID:=({Session:=(0:Int),Seq:=(0:Int)}:bK),R:=bI}:bh),(some ({a with epoch:=(IntKind.u64.wrap (a.epoch+(1:Int)))}:ae)))))))))
noncomputable def iT (a:Int):Option (Bool) :=
 (some (a !=a))
noncomputable def dx (a b:Int):Option (Int) :=
 ((iT a).bind fun d=>((iT b).bind fun c=>(bif d then (bif c then (some (0:Int)) else (some ((-1):Int))) else (bif c then (some (1:Int)) else (bif (decide (a<b)) then (some ((-1):Int)) else (bif (decide (a>b)) then (some (1:Int)) else (some (0:Int))))))))
noncomputable def lu (b:(List Int)) (a:(Int)):Option ((Int) ⊕ (Int)) :=
 (bif (decide (a<((b).length:Int))) then ((da b a).bind fun c=>(bif (c !=(0:Int)) then (bt (some c)) else (some (Sum.inl (IntKind.i64.wrap (a+(1:Int))))))) else (bt (some (0:Int))))
noncomputable def nX (a:(List Int)):Option (Int) :=
 (br (lu a) (0:Int))
noncomputable def ld (a:al) (b:bK):Option (Int) :=
 ((dx a.ID.Session b.Session).bind fun c=>((dx a.ID.Seq b.Seq).bind fun d=>((nX ([c,d])).bind fun e=>(some e))))
noncomputable def gh (c:bZ) (d:bK) (s:(Int×Int)):Option ((Int×Int) ⊕ (Int)) :=
 match s with | (b,a)=>(bif (decide (a<b)) then ((da c.l (IntKind.i64.wrap (iI .u64 (IntKind.u64.wrap (IntKind.i64.wrap (a+b))) (1:Int)))).bind fun e=>((ld e d).bind fun f=>(bif (decide (f<(0:Int))) then (some (Sum.inl (b,(IntKind.i64.wrap ((IntKind.i64.wrap (iI .u64 (IntKind.u64.wrap (IntKind.i64.wrap (a+b))) (1:Int)))+(1:Int)))))) else (some (Sum.inl ((IntKind.i64.wrap (iI .u64 (IntKind.u64.wrap (IntKind.i64.wrap (a+b))) (1:Int))),a)))))) else (bt (some a)))
noncomputable def jY (b:bZ) (c:bK) (a:(Int)):Option (Int×Bool) :=
 (bif (decide (a<((b.l).length:Int))) then ((da b.l a).bind fun d=>((ld d c).bind fun e=>(some (a,(e==(0:Int)))))) else (some (a,false)))
noncomputable def fG (c:(Option bZ)) (b:bK):Option (Int×Bool) :=
 (match c with | none=>none | some a=>((((br (gh a b) (((a.l).length:Int),(0:Int)))).bind (jY a b)).bind fun (d,e)=>(some (d,e))))
noncomputable def gy (c:(Option bZ)) (d:bK):Option (al×Bool) :=
 (match c with | none=>none | some a=>((fG (some a) d).bind fun b=>(bif (!b.2) then (some (ea,false)) else ((da a.l b.1).bind fun e=>(some (e,true))))))
noncomputable def pK (a:Nat):Option (Bool) :=
 (some (fNe a a))
noncomputable def eN (a:Nat):Option (Int) :=
 ((pK a).bind fun b=>(bif b then (some (18446744073709551615:Int)) else (bif ((iI .u64 (Int.ofNat a) (63:Int))==(1:Int)) then (some (xz .u64 ((18446744073709551615):Int) (Int.ofNat a))) else (some (bOr .u64 (Int.ofNat a) (9223372036854775808:Int))))))
noncomputable def iN (a b:Nat):Option (Bool) :=
 ((eN a).bind fun c=>((eN b).bind fun d=>(some (c==d))))
noncomputable def nu (a b:(Nat×Nat)):Option (Bool) :=
 ((iN a.1 b.1).bind fun c=>(bif c then ((iN a.2 b.2).bind fun d=>(some d)) else (some false)))
noncomputable def eZ (b c:(List Int)) (a:(Int)):Option ((Int) ⊕ (Bool)) :=
 (bif (decide (a<((b).length:Int))) then ((da b a).bind fun d=>((da c a).bind fun e=>(bif (d !=e) then (bt (some false)) else (some (Sum.inl (IntKind.i64.wrap (a+(1:Int)))))))) else (bt (some true)))
noncomputable def eW (a b:(List Int)):Option (Bool) :=
 (bif (((a).length:Int) !=((b).length:Int)) then (some false) else (br (eZ a b) (0:Int)))
noncomputable def jT (b c:al) (a:(Int)):Option ((Int) ⊕ (Bool)) :=
 (bif (decide (a<((b.Gets).length:Int))) then ((da b.Gets a).bind fun d=>((da c.Gets a).bind fun e=>((iN d e).bind fun f=>(bif (!f) then (bt (some false)) else (some (Sum.inl (IntKind.i64.wrap (a+(1:Int))))))))) else (bt (some true)))
noncomputable def jP (b c:al) (a:(Int)):Option ((Int) ⊕ (Bool)) :=
 (bif (decide (a<((b.Scans).length:Int))) then ((da b.Scans a).bind fun d=>((da c.Scans a).bind fun e=>((nu d e).bind fun f=>(bif (!f) then (bt (some false)) else (some (Sum.inl (IntKind.i64.wrap (a+(1:Int))))))))) else (bt (some true)))
noncomputable def jU (b c:al) (a:(Int)):Option ((Int) ⊕ (Bool)) :=
 (bif (decide (a<((b.Puts).length:Int))) then ((da b.Puts a).bind fun d=>((da c.Puts a).bind fun e=>((iN d e).bind fun f=>(bif (!f) then (bt (some false)) else (some (Sum.inl (IntKind.i64.wrap (a+(1:Int))))))))) else (bt (some true)))
noncomputable def nY (a b:al):Option (Bool) :=
 (bif ((a.ID.Session==b.ID.Session)&&(a.ID.Seq==b.ID.Seq)) then (bif (a.Epoch==b.Epoch) then ((bif (((a.Gets).length:Int) !=((b.Gets).length:Int)) then (some false) else (br (jT a b) (0:Int))).bind fun c=>(bif c then ((bif (((a.Scans).length:Int) !=((b.Scans).length:Int)) then (some false) else (br (jP a b) (0:Int))).bind fun d=>(bif d then ((bif (((a.Puts).length:Int) !=((b.Puts).length:Int)) then (some false) else (br (jU a b) (0:Int))).bind fun e=>(bif e then ((eW a.Data b.Data).bind fun f=>(some f)) else (some false))) else (some false))) else (some false))) else (some false)) else (some false))
noncomputable def lz (a b c:Nat):Option (Bool) :=
 ((eN b).bind fun d=>((eN a).bind fun e=>(bif (decide (d≤e)) then ((eN a).bind fun f=>((eN c).bind fun g=>(some (decide (f≤g))))) else (some false))))
noncomputable def jw (b:al) (c d:Nat) (a:(Int)):Option ((Int) ⊕ (Int)) :=
 (bif (decide (a<((b.Puts).length:Int))) then ((da b.Puts a).bind fun e=>(((lz e c d).bind fun f=>(some f)).bind fun g=>(bif g then (bt (some a)) else (some (Sum.inl (IntKind.i64.wrap (a+(1:Int)))))))) else (bt (some ((-1):Int))))
noncomputable def nL (a:al) (b c:Nat):Option (Bool) :=
 (((br (jw a b c) (0:Int)).bind fun d=>(some (decide (d≥(0:Int))))).bind fun e=>(some e))
noncomputable def ki (b:al) (c:Nat) (a:(Int)):Option ((Int) ⊕ (Int)) :=
 (bif (decide (a<((b.Gets).length:Int))) then ((da b.Gets a).bind fun d=>(((iN c d).bind fun e=>(some e)).bind fun f=>(bif f then (bt (some a)) else (some (Sum.inl (IntKind.i64.wrap (a+(1:Int)))))))) else (bt (some ((-1):Int))))
noncomputable def kp (b:al) (d:Nat) (a:(Int)):Option ((Int) ⊕ (Int)) :=
 (bif (decide (a<((b.Scans).length:Int))) then ((da b.Scans a).bind fun c=>(((lz d c.1 c.2).bind fun e=>(some e)).bind fun f=>(bif f then (bt (some a)) else (some (Sum.inl (IntKind.i64.wrap (a+(1:Int)))))))) else (bt (some ((-1):Int))))
noncomputable def nn (a:al) (b:Nat):Option (Bool) :=
 (((br (ki a b) (0:Int)).bind fun c=>(some (decide (c≥(0:Int))))).bind fun d=>(bif d then (some true) else (((br (kp a b) (0:Int)).bind fun e=>(some (decide (e≥(0:Int))))).bind fun f=>(some f))))
noncomputable def lm (c d:al) (a:(Int)):Option ((Int) ⊕ (Unit ⊕ (Bool))) :=
 (bif (decide (a<((c.Puts).length:Int))) then ((da c.Puts a).bind fun b=>((nL d b b).bind fun e=>(bif e then (bt (bt (some true))) else ((nn d b).bind fun f=>(bif f then (bt (bt (some true))) else (some (Sum.inl (IntKind.i64.wrap (a+(1:Int)))))))))) else (bt (some (Sum.inl ()))))
noncomputable def lj (b c:al) (a:(Int)):Option ((Int) ⊕ (Bool)) :=
 (bif (decide (a<((b.Puts).length:Int))) then ((da b.Puts a).bind fun d=>((nn c d).bind fun e=>(bif e then (bt (some true)) else (some (Sum.inl (IntKind.i64.wrap (a+(1:Int)))))))) else (bt (some false)))
noncomputable def mC (a b:al) (c:Unit):Option (Bool) :=
 (br (lj a b) (0:Int))
noncomputable def pA (a b:al):Option (Bool) :=
 (iJ (br (lm a b) (0:Int)) (mC b a))
noncomputable def eu (a:(List Nat)):Option ((List Nat)) :=
 gd (room ([]:(List Nat)) a) (some a)
noncomputable def eH (a:(List (Nat×Nat))):Option ((List (Nat×Nat))) :=
 gd (room ([]:(List (Nat×Nat))) a) (some a)
noncomputable def dM (a:(List Int)):Option ((List Int)) :=
 gd (room ([]:(List Int)) a) (some a)
noncomputable def eL (a:(List al)) (b:Int) (c:(List al)):Option ((List al)) :=
 gd (oW a b c) (some (ins a b c))
noncomputable def gl (b:bZ) (c:al) (a:(Int)):Option ((Int) ⊕ (Unit ⊕ (Int×(Option bZ)))) :=
 (bif (decide (a<((b.l).length:Int))) then ((da b.l a).bind fun d=>(bif (!((d.ID.Session==c.ID.Session)&&(d.ID.Seq==c.ID.Seq))) then ((pA d c).bind fun e=>(bif e then (bt (bt (some ((8:Int),(some b))))) else (some (Sum.inl (IntKind.i64.wrap (a+(1:Int))))))) else (some (Sum.inl (IntKind.i64.wrap (a+(1:Int))))))) else (bt (some (Sum.inl ()))))
noncomputable def iG (a:al) (b:bZ) (i:Unit):Option (Int×(Option bZ)) :=
 ((eu a.Gets).bind fun d=>((eH a.Scans).bind fun e=>((eu a.Puts).bind fun f=>((dM a.Data).bind fun g=>((fG (some b) a.ID).bind fun c=>(bif c.2 then ((da b.l c.1).bind fun j=>(some ((0:Int),(some ({l:=(b.l.set c.1.toNat ({a with Gets:=d,Scans:=e,Puts:=f,Data:=g}:al))}:bZ))))) else ((eL b.l c.1 ([({a with Gets:=d,Scans:=e,Puts:=f,Data:=g}:al)])).bind fun h=>(some ((0:Int),(some ({l:=h}:bZ)))))))))))
noncomputable def gM (c:(Option bZ)) (a:al):Option (Int×(Option bZ)) :=
 (match c with | none=>none | some b=>(iJ (br (gl b a) (0:Int)) (iG a b)))
noncomputable def ee (a:ae) (c:al) (d:Unit):Option (Int×(Option ae)) :=
 ((gM a.locks c).bind fun b=>(some (b.1,(some ({a with locks:=b.2}:ae)))))
noncomputable def mV (b:al) (a:ae) (s:(Int×Int×Int×(List Nat)×(List (Nat×Nat))×(List Nat)×(List Int)×Bool)):Option (Int×(Option ae)) :=
 match s with | (d,e,c,f,g,h,i,j)=>(iJ (bif j then ((nY ({ID:=({Session:=d,Seq:=e}:bK),Epoch:=c,Gets:=f,Scans:=g,Puts:=h,Data:=i}:al) b).bind fun k=>(bif k then (bt (some ((0:Int),(some a)))) else (bif (decide (b.ID.Session<(9223372036854775808:Int))) then (bt (some ((8:Int),(some a)))) else (bif (decide (b.Epoch≤c)) then (bt (some ((8:Int),(some a)))) else (some (Sum.inl ())))))) else (bif (b.Epoch !=a.epoch) then (bt (some ((9:Int),(some a)))) else (some (Sum.inl ())))) (ee a b))
noncomputable def jt (d:(Option ae)) (b:al):Option (Int×(Option ae)) :=
 (match d with | none=>none | some c=>((((gy c.locks b.ID).bind fun a=>(some (a.1.ID.Session,a.1.ID.Seq,a.1.Epoch,a.1.Gets,a.1.Scans,a.1.Puts,a.1.Data,a.2)))).bind (mV b c)))
noncomputable def gH (c:cO) (d:Int) (s:(Int×Int)):Option ((Int×Int) ⊕ (Int)) :=
 match s with | (a,b)=>(bif (decide (a<b)) then (((da c.rows (IntKind.i64.wrap (iI .u64 (IntKind.u64.wrap (IntKind.i64.wrap (a+b))) (1:Int)))).bind fun e=>(some (decide (e.rank≥d)))).bind fun f=>(bif (!f) then (some (Sum.inl ((IntKind.i64.wrap ((IntKind.i64.wrap (iI .u64 (IntKind.u64.wrap (IntKind.i64.wrap (a+b))) (1:Int)))+(1:Int))),b))) else (some (Sum.inl (a,(IntKind.i64.wrap (iI .u64 (IntKind.u64.wrap (IntKind.i64.wrap (a+b))) (1:Int)))))))) else (bt (some a)))
noncomputable def gq (d:(Option cO)) (c:Int):Option (Int×Bool) :=
 (match d with | none=>none | some a=>((br (gH a c) ((0:Int),((a.rows).length:Int))).bind fun b=>(bif (decide (b<((a.rows).length:Int))) then ((da a.rows b).bind fun e=>(some (b,(e.rank==c)))) else (some (b,false)))))
noncomputable def pg (c:(List aT)) (d:Int) (s:(Int×Int)):Option ((Int×Int) ⊕ (Int)) :=
 match s with | (a,b)=>(bif (decide (a<b)) then (((da c (IntKind.i64.wrap (iI .u64 (IntKind.u64.wrap (IntKind.i64.wrap (a+b))) (1:Int)))).bind fun e=>(some (decide (e.Epoch>d)))).bind fun f=>(bif (!f) then (some (Sum.inl ((IntKind.i64.wrap ((IntKind.i64.wrap (iI .u64 (IntKind.u64.wrap (IntKind.i64.wrap (a+b))) (1:Int)))+(1:Int))),b))) else (some (Sum.inl (a,(IntKind.i64.wrap (iI .u64 (IntKind.u64.wrap (IntKind.i64.wrap (a+b))) (1:Int)))))))) else (bt (some a)))
noncomputable def od (a:(List aT)) (d:Int):Option (cp) :=
 ((br (pg a d) ((0:Int),((a).length:Int))).bind fun b=>(bif (b==(0:Int)) then (some ({Has:=false,Val:=[]}:cp)) else ((da a (IntKind.i64.wrap (b - (1:Int)))).bind fun c=>(bif c.Del then (some ({Has:=false,Val:=[]}:cp)) else ((dM c.Val).bind fun e=>(some ({Has:=true,Val:=e}:cp)))))))
noncomputable def dW (c:(Option cO)) (d:Nat) (e:Int):Option (cp) :=
 (match c with | none=>none | some a=>((eN d).bind fun f=>((gq (some a) f).bind fun b=>(bif (!b.2) then (some ({Has:=false,Val:=[]}:cp)) else ((da a.rows b.1).bind fun g=>((od g.l e).bind fun h=>(some h)))))))
noncomputable def jz (a:Int):Option (Nat) :=
 (bif ((iI .u64 a (63:Int))==(1:Int)) then (some (Int.toNat (tU .u64 a (9223372036854775808:Int)))) else (some (Int.toNat (xz .u64 ((18446744073709551615):Int) a))))
noncomputable def gI (e:cO) (g:Nat) (h i:Int) (s:((List bM)×Int)):Option (((List bM)×Int) ⊕ ((List bM))) :=
 match s with | (a,b)=>(bif (decide (b<((e.rows).length:Int))) then ((da e.rows b).bind fun c=>((eN g).bind fun j=>(bif (decide (c.rank≤j)) then (bif (decide (((a).length:Int)<h)) then ((od c.l i).bind fun d=>(bif d.Has then ((jz c.rank).bind fun f=>(gd (room a ([({At:=f,Val:=d.Val}:bM)])) (some (Sum.inl ((a++([({At:=f,Val:=d.Val}:bM)])),(IntKind.i64.wrap (b+(1:Int)))))))) else (some (Sum.inl (a,(IntKind.i64.wrap (b+(1:Int)))))))) else (bt (some a))) else (bt (some a))))) else (bt (some a)))
noncomputable def ft (b:(Option cO)) (c d:Nat) (e f:Int):Option ((List bM)) :=
 (match b with | none=>none | some a=>((eN c).bind fun g=>((gq (some a) g).bind fun h=>(br (gI a d f e) ([],h.1)))))
noncomputable def gQ (c:al) (e:ae) (s:((List cp)×Int)):Option (((List cp)×Int) ⊕ ((List cp))) :=
 match s with | (a,b)=>(bif (decide (b<((c.Gets).length:Int))) then ((da c.Gets b).bind fun f=>((dW e.store f (18446744073709551615:Int)).bind fun d=>(gd (room a ([d])) (some (Sum.inl ((a++([d])),(IntKind.i64.wrap (b+(1:Int))))))))) else (bt (some a)))
noncomputable def fE (c:al) (f:ae) (g:(List cp)) (s:((List (List bM))×Int)):Option (((List (List bM))×Int) ⊕ (bp)) :=
 match s with | (a,b)=>(bif (decide (b<((c.Scans).length:Int))) then ((da c.Scans b).bind fun d=>((ft f.store d.1 d.2 (18446744073709551615:Int) (64:Int)).bind fun e=>(gd (room a ([e])) (some (Sum.inl ((a++([e])),(IntKind.i64.wrap (b+(1:Int))))))))) else (bt (some ({E:=(0:Int),Epoch:=(0:Int),Index:=(0:Int),Gots:=g,Scans:=a}:bp))))
noncomputable def kE (a:al) (b:ae) (c:((List cp))):Option (bp) :=
 (br (fE a b c) ([],(0:Int)))
noncomputable def jv (c:(Option ae)) (a:al):Option (bp) :=
 (match c with | none=>none | some b=>(((br (gQ a b) ([],(0:Int)))).bind (kE a b)))
noncomputable def je (c:(Option ae)) (b:aC):Option (bh×(Option ae)) :=
 ((jt c b.Hold).bind fun a=>(bif (a.1==(0:Int)) then ((jv a.2 b.Hold).bind fun d=>(some (({Kind:=(2:Int),ID:=b.Hold.ID,R:=d}:bh),a.2))) else (some (({Kind:=(2:Int),ID:=b.Hold.ID,R:=({E:=a.1,Epoch:=(0:Int),Index:=(0:Int),Gots:=[],Scans:=[]}:bp)}:bh),a.2))))
noncomputable def eK (a:(List al)) (b c:Int):Option ((List al)) :=
 gd (fits a b c) (some (del a b c))
noncomputable def iR (c:(Option bZ)) (d:bK):Option (Bool×(Option bZ)) :=
 (match c with | none=>none | some b=>((fG (some b) d).bind fun a=>(bif a.2 then ((eK b.l a.1 (IntKind.i64.wrap (a.1+(1:Int)))).bind fun e=>(some (a.2,(some ({l:=e}:bZ))))) else (some (a.2,(some b))))))
noncomputable def fm (a:(List (List Value))) (b:Int) (c:(List (List Value))):Option ((List (List Value))) :=
 gd (oW a b c) (some (ins a b c))
noncomputable def eM (a:(List bR)) (b:Int) (c:(List bR)):Option ((List bR)) :=
 gd (oW a b c) (some (ins a b c))
noncomputable def px (a:aT) (b c:Int):Option (Bool) :=
 (bif (decide (a.Epoch<b)) then (some true) else (bif (a.Epoch==b) then (some (decide (a.Index<c))) else (some false)))
noncomputable def dK (a:(List aT)) (b:Int) (c:(List aT)):Option ((List aT)) :=
 gd (oW a b c) (some (ins a b c))
noncomputable def ic (d:bR) (c:aT) (s:(Int×Int)):Option ((Int×Int) ⊕ (Int)) :=
 match s with | (a,b)=>(bif (decide (a<b)) then (((da d.l (IntKind.i64.wrap (iI .u64 (IntKind.u64.wrap (IntKind.i64.wrap (a+b))) (1:Int)))).bind fun e=>((px e c.Epoch c.Index).bind fun f=>(some (!f)))).bind fun g=>(bif (!g) then (some (Sum.inl ((IntKind.i64.wrap ((IntKind.i64.wrap (iI .u64 (IntKind.u64.wrap (IntKind.i64.wrap (a+b))) (1:Int)))+(1:Int))),b))) else (some (Sum.inl (a,(IntKind.i64.wrap (iI .u64 (IntKind.u64.wrap (IntKind.i64.wrap (a+b))) (1:Int)))))))) else (bt (some a)))
noncomputable def jM (b:bR) (c:Int) (a:aT) (d:(List Int)) (e:cO) (f:(Int×Bool)) (h:Unit):Option ((Option cO)) :=
 ((dK b.l c ([({a with Val:=d}:aT)])).bind fun g=>(some (some ({rows:=(e.rows.set f.1.toNat ({rank:=b.rank,l:=g}:bR))}:cO))))
noncomputable def jE (d:(Int×Bool)) (a:aT) (f:(List Int)) (e:(cO)):Option ((Option cO)) :=
 ((da e.rows d.1).bind fun b=>((br (ic b a) ((0:Int),((b.l).length:Int))).bind fun c=>(iJ (bif (decide (c<((b.l).length:Int))) then ((da b.l c).bind fun g=>(bif (g.Epoch==a.Epoch) then (bif (g.Index==a.Index) then (bt (some (some ({rows:=(e.rows.set d.1.toNat ({rank:=b.rank,l:=(b.l.set c.toNat ({a with Val:=f}:aT))}:bR))}:cO)))) else (some (Sum.inl ()))) else (some (Sum.inl ())))) else (some (Sum.inl ()))) (jM b c a f e d))))
noncomputable def lB (c:Nat) (a:cO) (d:aT) (e:((List Int))):Option ((Option cO)) :=
 ((eN c).bind fun f=>((gq (some a) f).bind fun b=>(((bif (!b.2) then ((eN c).bind fun g=>((eM a.rows b.1 ([({rank:=g,l:=[]}:bR)])).bind fun h=>(some ({rows:=h}:cO)))) else (some a))).bind (jE b d e))))
noncomputable def hH (b:(Option cO)) (c:Nat) (a:aT):Option ((Option cO)) :=
 (match b with | none=>none | some d=>((dM a.Val).bind fun e=>(((bif a.Del then (some ([])) else (some e))).bind (lB c d a))))
noncomputable def eQ (b:aC) (s:(ae×Int)):Option ((ae×Int) ⊕ (ae)) :=
 match s with | (a,c)=>(bif (decide (c<((b.Writes).length:Int))) then ((da b.Writes c).bind fun d=>((hH a.store d.At ({b with Del:=d.Del,Val:=d.Val}:aT)).bind fun e=>(some (Sum.inl (({a with store:=e}:ae),(IntKind.i64.wrap (c+(1:Int)))))))) else (bt (some a)))
noncomputable def lR (a:aC) (b:(ae)):Option (bh×(Option ae)) :=
 (some (({Kind:=(3:Int),ID:=a.ID,R:=bI}:bh),(some b)))
noncomputable def iq (d:(Option ae)) (b:aC):Option (bh×(Option ae)) :=
 (match d with | none=>none | some a=>((((iR a.locks b.ID).bind fun c=>(bif c.1 then (bif (b.E==(0:Int)) then (br (eQ b) (({a with locks:=c.2}:ae),(0:Int))) else (some ({a with locks:=c.2}:ae))) else (some ({a with locks:=c.2}:ae))))).bind (lR b)))
noncomputable def fH (a:aN) (b:Int):Option (Int) :=
 ((dx a.session b).bind fun c=>(some c))
noncomputable def fk (c:ck) (d:Int) (s:(Int×Int)):Option ((Int×Int) ⊕ (Int)) :=
 match s with | (b,a)=>(bif (decide (a<b)) then ((da c.l (IntKind.i64.wrap (iI .u64 (IntKind.u64.wrap (IntKind.i64.wrap (a+b))) (1:Int)))).bind fun e=>((fH e d).bind fun f=>(bif (decide (f<(0:Int))) then (some (Sum.inl (b,(IntKind.i64.wrap ((IntKind.i64.wrap (iI .u64 (IntKind.u64.wrap (IntKind.i64.wrap (a+b))) (1:Int)))+(1:Int)))))) else (some (Sum.inl ((IntKind.i64.wrap (iI .u64 (IntKind.u64.wrap (IntKind.i64.wrap (a+b))) (1:Int))),a)))))) else (bt (some a)))
noncomputable def jo (b:ck) (c:Int) (a:(Int)):Option (Int×Bool) :=
 (bif (decide (a<((b.l).length:Int))) then ((da b.l a).bind fun d=>((fH d c).bind fun e=>(some (a,(e==(0:Int)))))) else (some (a,false)))
noncomputable def eP (c:(Option ck)) (b:Int):Option (Int×Bool) :=
 (match c with | none=>none | some a=>((((br (fk a b) (((a.l).length:Int),(0:Int)))).bind (jo a b)).bind fun (d,e)=>(some (d,e))))
noncomputable def dS (a:(List aN)) (b:Int) (c:(List aN)):Option ((List aN)) :=
 gd (oW a b c) (some (ins a b c))
noncomputable def hY (b:(Int×Bool)) (c:Int) (e:bp) (d:(ck)):Option (Int×(Option ck)) :=
 ((da d.l b.1).bind fun a=>(some ((0:Int),(some ({l:=((d.l.set b.1.toNat ({a with seq:=c}:aN)).set b.1.toNat ({session:=({a with seq:=c}:aN).session,seq:=({a with seq:=c}:aN).seq,r:=e}:aN))}:ck)))))
noncomputable def hK (a:(Int×Bool)) (b:ck) (c d:Int) (e:bp) (g:Unit):Option (Int×(Option ck)) :=
 (((bif (!a.2) then ((dS b.l a.1 ([({session:=c,seq:=(0:Int),r:=bI}:aN)])).bind fun f=>(some ({l:=f}:ck))) else (some b))).bind (hY a d e))
noncomputable def fi (e:(Option ck)) (d b:Int) (f:bp):Option (Int×(Option ck)) :=
 (match e with | none=>none | some a=>(bif (b==(0:Int)) then (some ((1:Int),(some a))) else ((eP (some a) d).bind fun c=>(iJ (bif c.2 then ((da a.l c.1).bind fun g=>(bif (decide (g.seq≥b)) then (bt (some ((10:Int),(some a)))) else (some (Sum.inl ())))) else (some (Sum.inl ()))) (hK c a d b f)))))
noncomputable def en (c:(Option ck)) (d:Int):Option (Int) :=
 (match c with | none=>none | some a=>((eP (some a) d).bind fun b=>(bif (!b.2) then (some (0:Int)) else ((da a.l b.1).bind fun e=>(some e.seq)))))
noncomputable def iw (b:(Option ae)) (a:bK):Option (bh) :=
 (match b with | none=>none | some c=>((en c.last a.Session).bind fun d=>(bif (decide (d≤a.Seq)) then (some bG) else (some ({Kind:=(4:Int),ID:=a,R:=({E:=(10:Int),Epoch:=(0:Int),Index:=(0:Int),Gots:=[],Scans:=[]}:bp)}:bh)))))
noncomputable def dZ (a:(List dX)):Option ((List dX)) :=
 gd (room ([]:(List dX)) a) (some a)
noncomputable def il (a:bA) (b:bK):Option (Int) :=
 ((dx a.ID.Session b.Session).bind fun c=>((dx a.ID.Seq b.Seq).bind fun d=>((nX ([c,d])).bind fun e=>(some e))))
noncomputable def gN (c:ae) (d:bK) (s:(Int×Int)):Option ((Int×Int) ⊕ (Int)) :=
 match s with | (b,a)=>(bif (decide (a<b)) then ((da c.open_ (IntKind.i64.wrap (iI .u64 (IntKind.u64.wrap (IntKind.i64.wrap (a+b))) (1:Int)))).bind fun e=>((il e d).bind fun f=>(bif (decide (f<(0:Int))) then (some (Sum.inl (b,(IntKind.i64.wrap ((IntKind.i64.wrap (iI .u64 (IntKind.u64.wrap (IntKind.i64.wrap (a+b))) (1:Int)))+(1:Int)))))) else (some (Sum.inl ((IntKind.i64.wrap (iI .u64 (IntKind.u64.wrap (IntKind.i64.wrap (a+b))) (1:Int))),a)))))) else (bt (some a)))
noncomputable def kK (b:ae) (c:bK) (a:(Int)):Option (Int×Bool) :=
 (bif (decide (a<((b.open_).length:Int))) then ((da b.open_ a).bind fun d=>((il d c).bind fun e=>(some (a,(e==(0:Int)))))) else (some (a,false)))
noncomputable def gC (c:(Option ae)) (b:bK):Option (Int×Bool) :=
 (match c with | none=>none | some a=>((((br (gN a b) (((a.open_).length:Int),(0:Int)))).bind (kK a b)).bind fun (d,e)=>(some (d,e))))
noncomputable def dm (a:(List bA)) (b:Int) (c:(List bA)):Option ((List bA)) :=
 gd (oW a b c) (some (ins a b c))
noncomputable def jO (a:ae) (b:(Int×(Option ck))) (c:aC) (d e:Int) (f:((List dX))):Option (ae) :=
 ((gC (some ({a with last:=b.2}:ae)) c.ID).bind fun g=>((dm (({a with last:=b.2}:ae).open_) g.1 ([({c with E:=d,Index:=e,Parts:=f}:bA)])).bind fun h=>(some ({wide:=({a with last:=b.2}:ae).wide,epoch:=({a with last:=b.2}:ae).epoch,store:=({a with last:=b.2}:ae).store,locks:=({a with last:=b.2}:ae).locks,last:=({a with last:=b.2}:ae).last,book:=({a with last:=b.2}:ae).book,open_:=h,out:=({a with last:=b.2}:ae).out,used:=({a with last:=b.2}:ae).used}:ae))))
noncomputable def jJ (a:aC) (b c:Int) (d:(List cp)) (e:(List (List bM))) (f:(ae)):Option (bh×(Option ae)) :=
 (some (({Kind:=(4:Int),ID:=a.ID,R:=({E:=b,Epoch:=a.Epoch,Index:=c,Gots:=d,Scans:=e}:bp)}:bh),(some f)))
noncomputable def jK (a:ae) (b:aC) (d e:Int) (f:(List cp)) (g:(List (List bM))) (j:Unit):Option (bh×(Option ae)) :=
 ((fi a.last b.ID.Session b.ID.Seq ({E:=d,Epoch:=b.Epoch,Index:=e,Gots:=f,Scans:=g}:bp)).bind fun c=>(bif (c.1 !=(0:Int)) then ((iw (some ({a with last:=c.2}:ae)) b.ID).bind fun h=>(some (h,(some ({a with last:=c.2}:ae))))) else (((bif (b.Shards !=(0:Int)) then (((bif (d==(0:Int)) then ((dZ b.Parts).bind fun i=>(some i)) else (some ([])))).bind (jO a c b d e)) else (some ({a with last:=c.2}:ae)))).bind (jJ b d e f g))))
noncomputable def gZ (a:aC) (b:ae) (d:Int) (s:(Int×(List cp)×(List (List bM)))):Option (bh×(Option ae)) :=
 match s with | (c,e,f)=>(iJ (bif (c !=(0:Int)) then (bif (decide (a.ID.Session≥(9223372036854775808:Int))) then (bt (some (bG,(some b)))) else (some (Sum.inl ()))) else (some (Sum.inl ()))) (jK b a c d e f))
noncomputable def fO (c:(Option ae)) (d:Int) (a:aC):Option (bh×(Option ae)) :=
 (match c with | none=>none | some b=>(((bif (a.R.E==(0:Int)) then (bif (a.Epoch !=b.epoch) then (some ((9:Int),[],[])) else (some (a.R.E,a.R.Gots,a.R.Scans))) else (some (a.R.E,a.R.Gots,a.R.Scans)))).bind (gZ a b d)))
noncomputable def dn (a:(List bA)) (b c:Int):Option ((List bA)) :=
 gd (fits a b c) (some (del a b c))
noncomputable def fl (f:cB) (g e:Int) (s:(cB×Int×Bool)):Option ((cB×Int×Bool) ⊕ (Bool×(Option cB))) :=
 match s with | (b,a,d)=>(bif (decide (a<((f.l).length:Int))) then ((da b.l a).bind fun c=>(bif (c.r.ID==g) then (bif (c.to_==(0:Int)) then (some (Sum.inl (({l:=(b.l.set a.toNat ({c with to_:=(if (1:Int)>e then (1:Int) else e)}:df))}:cB),(IntKind.i64.wrap (a+(1:Int))),true))) else (some (Sum.inl (b,(IntKind.i64.wrap (a+(1:Int))),d)))) else (some (Sum.inl (b,(IntKind.i64.wrap (a+(1:Int))),d))))) else (bt (some (d,(some b)))))
noncomputable def eS (b:(Option cB)) (c d:Int):Option (Bool×(Option cB)) :=
 (match b with | none=>none | some a=>(br (fl a c d) (a,(0:Int),false)))
noncomputable def fW (d:(Option cB)) (a:dr) (b:Int):Option ((Option cB)) :=
 (match d with | none=>none | some e=>((eS (some e) a.ID b).bind fun f=>(match f.2 with | none=>none | some c=>(gd (room c.l ([({r:=a,from_:=b,to_:=(0:Int)}:df)])) (some (some ({l:=(c.l++([({r:=a,from_:=b,to_:=(0:Int)}:df)]))}:cB)))))))
noncomputable def ik (a:ct) (b:Int):Option (Int) :=
 ((dx a.kj b).bind fun c=>(some c))
noncomputable def dJ (a:(List ct)) (b:Int) (c:(List ct)):Option ((List ct)) :=
 gd (oW a b c) (some (ins a b c))
noncomputable def pS (a:bN) (b:((List Int))):Option (bN) :=
 (some ({a with Val:=b}:bN))
noncomputable def se (b:bN) (a:Int):Option (bN) :=
 (gd (CU (if (0:Int)>a then (0:Int) else a) (if (0:Int)>a then (0:Int) else a)) (((bif b.Del then (some ([])) else (some (cpy (List.replicate (Int.toNat (if (0:Int)>a then (0:Int) else a)) (0:Int)) b.Val)))).bind (pS b)))
noncomputable def fF (c:ae) (d:aC) (s:(Int×Int)):Option ((Int×Int) ⊕ (Int)) :=
 match s with | (b,a)=>(bif (decide (a<b)) then ((da c.used (IntKind.i64.wrap (iI .u64 (IntKind.u64.wrap (IntKind.i64.wrap (a+b))) (1:Int)))).bind fun e=>((ik e d.Rule.ID).bind fun f=>(bif (decide (f<(0:Int))) then (some (Sum.inl (b,(IntKind.i64.wrap ((IntKind.i64.wrap (iI .u64 (IntKind.u64.wrap (IntKind.i64.wrap (a+b))) (1:Int)))+(1:Int)))))) else (some (Sum.inl ((IntKind.i64.wrap (iI .u64 (IntKind.u64.wrap (IntKind.i64.wrap (a+b))) (1:Int))),a)))))) else (bt (some a)))
noncomputable def iY (b:ae) (c:aC) (a:(Int)):Option (Int×Bool) :=
 (bif (decide (a<((b.used).length:Int))) then ((da b.used a).bind fun d=>((ik d c.Rule.ID).bind fun e=>(some (a,(e==(0:Int)))))) else (some (a,false)))
noncomputable def gL (d:ae) (e:aC) (s:(Int×(List cW))):Option ((Int×(List cW)) ⊕ ((List cW))) :=
 match s with | (a,b)=>(bif (decide (a<((d.out).length:Int))) then ((da d.out a).bind fun c=>(bif (c.To==e.Rule.To) then (gd (room b ([c])) (some (Sum.inl ((IntKind.i64.wrap (a+(1:Int))),(b++([c])))))) else (some (Sum.inl ((IntKind.i64.wrap (a+(1:Int))),b))))) else (bt (some b)))
noncomputable def kF (d:Int) (b:aC) (g:Int) (a:(ae)):Option (ae) :=
 ((da a.used d).bind fun c=>((da b.Writes (0:Int)).bind fun h=>((br (gL a b) ((0:Int),[])).bind fun e=>((se h a.wide).bind fun f=>(gd (room a.out ([({To:=b.Rule.To,N:=(IntKind.u64.wrap (IntKind.i64.wrap (((e).length:Int)+(1:Int)))),Rule:=b.Rule.ID,Epoch:=b.Epoch,W:=f}:cW)])) (some ({a with out:=(a.out++([({To:=b.Rule.To,N:=(IntKind.u64.wrap (IntKind.i64.wrap (((e).length:Int)+(1:Int)))),Rule:=b.Rule.ID,Epoch:=b.Epoch,W:=f}:cW)])),used:=((a.used.set d.toNat ({c with epoch:=b.Epoch}:ct)).set d.toNat ({kj:=({c with epoch:=b.Epoch}:ct).kj,epoch:=({c with epoch:=b.Epoch}:ct).epoch,n:=(IntKind.i64.wrap (g+(1:Int)))}:ct))}:ae)))))))
noncomputable def kD (a:aC) (b c:Int) (d:(ae)):Option (bh×(Option ae)) :=
 (some (({Kind:=(4:Int),ID:=a.ID,R:=({E:=b,Epoch:=a.Epoch,Index:=c,Gots:=[],Scans:=[]}:bp)}:bh),(some d)))
noncomputable def jk (a:ae) (b:aC) (e:Int) (g:Bool) (f h:Int) (d:(Int)):Option (bh×(Option ae)) :=
 ((fi a.last b.ID.Session b.ID.Seq ({E:=d,Epoch:=b.Epoch,Index:=e,Gots:=[],Scans:=[]}:bp)).bind fun c=>(bif (c.1 !=(0:Int)) then ((iw (some ({a with last:=c.2}:ae)) b.ID).bind fun i=>(some (i,(some ({a with last:=c.2}:ae))))) else (((bif (d==(0:Int)) then (((bif (!g) then ((dJ a.used f ([({kj:=b.Rule.ID,epoch:=(0:Int),n:=(0:Int)}:ct)])).bind fun j=>(some ({a with last:=c.2,used:=j}:ae))) else (some ({a with last:=c.2}:ae)))).bind (kF f b h)) else (some ({a with last:=c.2}:ae)))).bind (kD b d e))))
noncomputable def kB (a:aC) (b:ae) (d:Int) (e:Bool) (f:Int) (c:(Int)):Option (bh×(Option ae)) :=
 (((bif (a.R.E !=(0:Int)) then (some a.R.E) else (bif (a.Epoch !=b.epoch) then (some (9:Int)) else (bif (((a.Writes).length:Int) !=(1:Int)) then (some (1:Int)) else (bif (decide (c≥a.Rule.Quota)) then (some (13:Int)) else (some a.R.E)))))).bind (jk b a d e f c))
noncomputable def iz (f:(Option ae)) (g:Int) (b:aC):Option (bh×(Option ae)) :=
 (match f with | none=>none | some a=>((((br (fF a b) (((a.used).length:Int),(0:Int)))).bind (iY a b)).bind fun (c,d)=>(((bif d then ((da a.used c).bind fun e=>(bif (e.epoch==b.Epoch) then (some e.n) else (some (0:Int)))) else (some (0:Int)))).bind (kB b a g d c))))
noncomputable def cn (j:(Option ae)) (d:Int) (b:aC):Option (bh×(Option ae)) :=
 (match j with | none=>none | some a=>(bif (b.Kind==(1:Int)) then ((iy (some a) b).bind fun e=>(match e.2 with | none=>none | some k=>(some (e.1,(some k))))) else (bif (b.Kind==(2:Int)) then ((je (some a) b).bind fun f=>(match f.2 with | none=>none | some l=>(some (f.1,(some l))))) else (bif (b.Kind==(3:Int)) then ((iq (some a) b).bind fun g=>(match g.2 with | none=>none | some m=>(some (g.1,(some m))))) else (bif (b.Kind==(4:Int)) then ((fO (some a) d b).bind fun h=>(match h.2 with | none=>none | some n=>(some (h.1,(some n))))) else (bif (b.Kind==(5:Int)) then ((gC (some a) b.ID).bind fun c=>(bif c.2 then ((dn a.open_ c.1 (IntKind.i64.wrap (c.1+(1:Int)))).bind fun o=>(some (bG,(some ({a with open_:=o}:ae))))) else (some (bG,(some a))))) else (bif (b.Kind==(6:Int)) then (bif b.On then ((fW a.book b.Rule a.epoch).bind fun p=>(some (bG,(some ({a with book:=p}:ae))))) else ((eS a.book b.Rule.ID a.epoch).bind fun q=>(some (bG,(some ({a with book:=q.2}:ae)))))) else (bif (b.Kind==(7:Int)) then ((iz (some a) d b).bind fun i=>(match i.2 with | none=>none | some s=>(some (i.1,(some s))))) else (some (bG,(some a)))))))))))
noncomputable def iQ (a:(Option ae)):Option (Int) :=
 (match a with | none=>none | some b=>(some b.epoch))
noncomputable def lF:Option (Bool) :=
 ((qC (4:Int)).bind fun b=>((cn (some b) (1:Int) ({Kind:=(1:Int),ID:=({Session:=(0:Int),Seq:=(0:Int)}:bK),Epoch:=(1:Int),Index:=(0:Int),E:=(0:Int),Hold:=ea,Writes:=[],R:=bI,Shards:=(0:Int),Parts:=[],Rule:=eB,On:=false}:aC)).bind fun a=>(match a.2 with | none=>none | some c=>(bif (a.1.Kind==(1:Int)) then ((iQ (some c)).bind fun d=>(bif (d==(2:Int)) then (some true) else none)) else none))))
noncomputable def sB (a:Int):Option (ai) :=
 (some ({Wide:=a,Epoch:=(1:Int),V:=[],H:=[],A:=[],B:=[],Open:=[],Out:=[],Used:=[]}:ai))
noncomputable def aF (a:ak) (b:Int):Option (Int×ak) :=
 (bif (decide (a.I≥((a.L).length:Int))) then (some ((0:Int),a)) else ((da a.L (IntKind.i64.wrap ((IntKind.i64.wrap (a.I+(1:Int))) - (1:Int)))).bind fun c=>(gd (!(b==(0:Int))) (some ((Int.tmod (IntKind.i64.wrap c) b),({L:=a.L,I:=(IntKind.i64.wrap (a.I+(1:Int)))}:ak))))))
noncomputable def eC (c:ak):Option (bK×ak) :=
 ((aF c (4:Int)).bind fun a=>((aF a.2 (4:Int)).bind fun b=>(some (({Session:=(IntKind.u64.wrap a.1),Seq:=(IntKind.u64.wrap (IntKind.i64.wrap ((1:Int)+b.1)))}:bK),b.2))))
noncomputable def qd (a:Int):Option (Nat) :=
 ((da ([(0:Nat),(4607182418800017408:Nat),(13830554455654793216:Nat),(4612811918334230528:Nat),(9094988921128908188:Nat),(18318360957983683996:Nat),(4602678819172646912:Nat),(4613937818241073152:Nat)]) (Int.tmod a (8:Int))).bind fun b=>(some b))
noncomputable def cU (b:ak):Option (Nat×ak) :=
 ((aF b (8:Int)).bind fun a=>((qd (IntKind.u8.wrap a.1)).bind fun c=>(some (c,a.2))))
noncomputable def fY (e:(Int×ak)) (s:(ak×(List Int)×Int)):Option ((ak×(List Int)×Int) ⊕ ((List Int)×ak)) :=
 match s with | (c,a,d)=>(bif (decide (d<e.1)) then ((aF c (26:Int)).bind fun b=>(gd (room a ([(IntKind.u8.wrap (IntKind.i64.wrap ((97:Int)+b.1)))])) (some (Sum.inl (b.2,(a++([(IntKind.u8.wrap (IntKind.i64.wrap ((97:Int)+b.1)))])),(IntKind.i64.wrap (d+(1:Int)))))))) else (bt (some (a,c))))
noncomputable def eO (b:ak):Option ((List Int)×ak) :=
 ((aF b (4:Int)).bind fun a=>(br (fY a) (a.2,[],(0:Int))))
noncomputable def fv (e:(Int×ak)) (s:((List Nat)×ak×Int)):Option (((List Nat)×ak×Int) ⊕ (ak×(List Nat))) :=
 match s with | (a,c,d)=>(bif (decide (d<e.1)) then ((cU c).bind fun b=>(gd (room a ([b.1])) (some (Sum.inl ((a++([b.1])),b.2,(IntKind.i64.wrap (d+(1:Int)))))))) else (bt (some (c,a))))
noncomputable def fD (f:(Int×ak)) (s:((List (Nat×Nat))×ak×Int)):Option (((List (Nat×Nat))×ak×Int) ⊕ (ak×(List (Nat×Nat)))) :=
 match s with | (a,d,e)=>(bif (decide (e<(IntKind.i64.wrap (Int.tdiv f.1 (2:Int))))) then ((cU d).bind fun b=>((cU b.2).bind fun c=>(gd (room a ([(b.1,c.1)])) (some (Sum.inl ((a++([(b.1,c.1)])),c.2,(IntKind.i64.wrap (e+(1:Int))))))))) else (bt (some (d,a))))
noncomputable def fx (e:(Int×ak)) (s:((List Nat)×ak×Int)):Option (((List Nat)×ak×Int) ⊕ (ak×(List Nat))) :=
 match s with | (a,c,d)=>(bif (decide (d<e.1)) then ((cU c).bind fun b=>(gd (room a ([b.1])) (some (Sum.inl ((a++([b.1])),b.2,(IntKind.i64.wrap (d+(1:Int)))))))) else (bt (some (c,a))))
noncomputable def mY (b:(bK×ak)) (c:(Int×ak)) (d:(List Nat)) (e:(List (Nat×Nat))) (s:(ak×(List Nat))):Option (al×ak) :=
 match s with | (h,f)=>((aF h (4:Int)).bind fun a=>(bif (a.1==(0:Int)) then ((eO a.2).bind fun g=>(some (({ID:=b.1,Epoch:=(IntKind.u64.wrap (IntKind.i64.wrap ((1:Int)+c.1))),Gets:=d,Scans:=e,Puts:=f,Data:=g.1}:al),g.2))) else (some (({ID:=b.1,Epoch:=(IntKind.u64.wrap (IntKind.i64.wrap ((1:Int)+c.1))),Gets:=d,Scans:=e,Puts:=f,Data:=[]}:al),a.2))))
noncomputable def mU (b:(bK×ak)) (c:(Int×ak)) (d:(List Nat)) (s:(ak×(List (Nat×Nat)))):Option (al×ak) :=
 match s with | (e,f)=>((aF e (3:Int)).bind fun a=>(((br (fx a) ([],a.2,(0:Int)))).bind (mY b c d f)))
noncomputable def mW (b:(bK×ak)) (c:(Int×ak)) (s:(ak×(List Nat))):Option (al×ak) :=
 match s with | (d,e)=>((aF d (3:Int)).bind fun a=>(((br (fD a) ([],a.2,(0:Int)))).bind (mU b c e)))
noncomputable def iv (d:ak):Option (al×ak) :=
 ((eC d).bind fun a=>((aF a.2 (4:Int)).bind fun b=>((aF b.2 (3:Int)).bind fun c=>(((br (fv c) ([],c.2,(0:Int)))).bind (mW a b)))))
noncomputable def nr (a:(List bN)) (b:(Nat×ak)) (c:(Int×ak)) (e:Int) (s:(ak×(List Int))):Option ((ak×(List bN)×Int) ⊕ ((List bN)×ak)) :=
 match s with | (f,d)=>(gd (room a ([({At:=b.1,Del:=(c.1==(0:Int)),Val:=d}:bN)])) (some (Sum.inl (f,(a++([({At:=b.1,Del:=(c.1==(0:Int)),Val:=d}:bN)])),(IntKind.i64.wrap (e+(1:Int)))))))
noncomputable def fU (g:(Int×ak)) (s:(ak×(List bN)×Int)):Option ((ak×(List bN)×Int) ⊕ ((List bN)×ak)) :=
 match s with | (b,c,d)=>(bif (decide (d<g.1)) then ((cU b).bind fun e=>((aF e.2 (4:Int)).bind fun a=>(((bif (!(a.1==(0:Int))) then ((eO a.2).bind fun f=>(some (f.2,f.1))) else (some (a.2,[])))).bind (nr c e a d)))) else (bt (some (c,b))))
noncomputable def fp (b:ak):Option ((List bN)×ak) :=
 ((aF b (3:Int)).bind fun a=>(br (fU a) (a.2,[],(0:Int))))
noncomputable def gR (f:(Int×ak)) (s:((List cp)×ak×Int)):Option (((List cp)×ak×Int) ⊕ (ak×(List cp))) :=
 match s with | (a,d,e)=>(bif (decide (e<f.1)) then ((aF d (2:Int)).bind fun b=>((eO b.2).bind fun c=>(gd (room a ([({Has:=(b.1==(0:Int)),Val:=c.1}:cp)])) (some (Sum.inl ((a++([({Has:=(b.1==(0:Int)),Val:=c.1}:cp)])),c.2,(IntKind.i64.wrap (e+(1:Int))))))))) else (bt (some (d,a))))
noncomputable def gV (f:(Int×ak)) (s:(ak×Int×(List bM))):Option ((ak×Int×(List bM)) ⊕ (ak×(List bM))) :=
 match s with | (d,e,a)=>(bif (decide (e<f.1)) then ((cU d).bind fun b=>((eO b.2).bind fun c=>(gd (room a ([({At:=b.1,Val:=c.1}:bM)])) (some (Sum.inl (c.2,(IntKind.i64.wrap (e+(1:Int))),(a++([({At:=b.1,Val:=c.1}:bM)])))))))) else (bt (some (d,a))))
noncomputable def oe (a:(List (List bM))) (c:Int) (s:(ak×(List bM))):Option (((List (List bM))×ak×Int) ⊕ (bp×ak)) :=
 match s with | (d,b)=>(gd (room a ([b])) (some (Sum.inl ((a++([b])),d,(IntKind.i64.wrap (c+(1:Int)))))))
noncomputable def gS (e:(Int×ak)) (f g h:Int) (i:(List cp)) (s:((List (List bM))×ak×Int)):Option (((List (List bM))×ak×Int) ⊕ (bp×ak)) :=
 match s with | (a,b,c)=>(bif (decide (c<(IntKind.i64.wrap (Int.tdiv e.1 (2:Int))))) then ((aF b (3:Int)).bind fun d=>(((br (gV d) (d.2,(0:Int),[]))).bind (oe a c))) else (bt (some (({E:=f,Epoch:=g,Index:=h,Gots:=i,Scans:=a}:bp),b))))
noncomputable def og (b c d:Int) (s:(ak×(List cp))):Option (bp×ak) :=
 match s with | (e,f)=>((aF e (3:Int)).bind fun a=>(br (gS a b c d f) ([],a.2,(0:Int))))
noncomputable def lZ (s:(ak×Int×Int×Int)):Option (bp×ak) :=
 match s with | (b,c,d,e)=>((aF b (3:Int)).bind fun a=>(((br (gR a) ([],a.2,(0:Int)))).bind (og c d e)))
noncomputable def gX (d:ak):Option (bp×ak) :=
 ((((aF d (6:Int)).bind fun a=>((da ([(0:Int),(0:Int),(0:Int),(8:Int),(9:Int),(3:Int)]) a.1).bind fun e=>((aF a.2 (4:Int)).bind fun b=>((aF b.2 (9:Int)).bind fun c=>(some (c.2,e,(IntKind.u64.wrap b.1),(IntKind.u64.wrap c.1)))))))).bind (lZ))
noncomputable def kH (h:ak):Option (dr×ak) :=
 ((aF h (3:Int)).bind fun a=>((aF a.2 (4:Int)).bind fun b=>((aF b.2 (4:Int)).bind fun c=>((cU c.2).bind fun d=>((cU d.2).bind fun e=>((aF e.2 (2:Int)).bind fun f=>((aF f.2 (3:Int)).bind fun g=>(some (({ID:=(IntKind.u64.wrap a.1),From:=b.1,To:=c.1,Lo:=d.1,Hi:=e.1,Authority:=(IntKind.u64.wrap f.1),Quota:=g.1}:dr),g.2)))))))))
noncomputable def dP (e:(Int×ak)) (s:((List dX)×ak×Int)):Option (((List dX)×ak×Int) ⊕ (ak×(List dX))) :=
 match s with | (b,d,a)=>(bif (decide (a<e.1)) then ((fp d).bind fun c=>(gd (room b ([({Shard:=a,Writes:=c.1}:dX)])) (some (Sum.inl ((b++([({Shard:=a,Writes:=c.1}:dX)])),c.2,(IntKind.i64.wrap (a+(1:Int)))))))) else (bt (some (d,b))))
noncomputable def mT (b:(Int×ak)) (c:Int) (d:(bK×ak)) (e f:(Int×ak)) (s:(ak×(List dX))):Option (aC×ak) :=
 match s with | (g,h)=>((gX g).bind fun a=>(some (({Kind:=(IntKind.u8.wrap (IntKind.i64.wrap ((1:Int)+b.1))),ID:=({Session:=c,Seq:=d.1.Seq}:bK),Epoch:=(IntKind.u64.wrap (IntKind.i64.wrap ((1:Int)+e.1))),Index:=(0:Int),E:=(0:Int),Hold:=ea,Writes:=[],R:=a.1,Shards:=(IntKind.u64.wrap f.1),Parts:=h,Rule:=eB,On:=false}:aC),a.2)))
noncomputable def iZ (d:(Int×ak)) (e:(bK×ak)) (s:(ak×Int)):Option (aC×ak) :=
 match s with | (f,g)=>((aF f (4:Int)).bind fun a=>((aF a.2 (4:Int)).bind fun b=>((aF b.2 (3:Int)).bind fun c=>(((br (dP c) ([],c.2,(0:Int)))).bind (mT d g e a b)))))
noncomputable def eU (t:ak):Option (aC×ak) :=
 ((aF t (7:Int)).bind fun a=>(bif ((IntKind.u8.wrap (IntKind.i64.wrap ((1:Int)+a.1)))==(1:Int)) then ((aF a.2 (4:Int)).bind fun d=>(some (({Kind:=(IntKind.u8.wrap (IntKind.i64.wrap ((1:Int)+a.1))),ID:=({Session:=(0:Int),Seq:=(0:Int)}:bK),Epoch:=(IntKind.u64.wrap (IntKind.i64.wrap ((1:Int)+d.1))),Index:=(0:Int),E:=(0:Int),Hold:=ea,Writes:=[],R:=bI,Shards:=(0:Int),Parts:=[],Rule:=eB,On:=false}:aC),d.2))) else (bif ((IntKind.u8.wrap (IntKind.i64.wrap ((1:Int)+a.1)))==(2:Int)) then ((iv a.2).bind fun e=>(some (({Kind:=(IntKind.u8.wrap (IntKind.i64.wrap ((1:Int)+a.1))),ID:=({Session:=(0:Int),Seq:=(0:Int)}:bK),Epoch:=(0:Int),Index:=(0:Int),E:=(0:Int),Hold:=e.1,Writes:=[],R:=bI,Shards:=(0:Int),Parts:=[],Rule:=eB,On:=false}:aC),e.2))) else (bif ((IntKind.u8.wrap (IntKind.i64.wrap ((1:Int)+a.1)))==(3:Int)) then ((eC a.2).bind fun f=>((aF f.2 (3:Int)).bind fun g=>((da ([(0:Int),(0:Int),(8:Int)]) g.1).bind fun u=>((aF g.2 (4:Int)).bind fun h=>((aF h.2 (20:Int)).bind fun i=>((fp i.2).bind fun j=>(some (({Kind:=(IntKind.u8.wrap (IntKind.i64.wrap ((1:Int)+a.1))),ID:=f.1,Epoch:=(IntKind.u64.wrap (IntKind.i64.wrap ((1:Int)+h.1))),Index:=(IntKind.u64.wrap i.1),E:=u,Hold:=ea,Writes:=j.1,R:=bI,Shards:=(0:Int),Parts:=[],Rule:=eB,On:=false}:aC),j.2)))))))) else (bif ((IntKind.u8.wrap (IntKind.i64.wrap ((1:Int)+a.1)))==(4:Int)) then ((eC a.2).bind fun b=>((((aF b.2 (6:Int)).bind fun c=>(bif (c.1==(0:Int)) then (some (c.2,(IntKind.u64.wrap (b.1.Session+(9223372036854775808:Int))))) else (some (c.2,b.1.Session))))).bind (iZ a b))) else (bif ((IntKind.u8.wrap (IntKind.i64.wrap ((1:Int)+a.1)))==(5:Int)) then ((eC a.2).bind fun k=>(some (({Kind:=(IntKind.u8.wrap (IntKind.i64.wrap ((1:Int)+a.1))),ID:=k.1,Epoch:=(0:Int),Index:=(0:Int),E:=(0:Int),Hold:=ea,Writes:=[],R:=bI,Shards:=(0:Int),Parts:=[],Rule:=eB,On:=false}:aC),k.2))) else (bif ((IntKind.u8.wrap (IntKind.i64.wrap ((1:Int)+a.1)))==(6:Int)) then ((kH a.2).bind fun l=>((aF l.2 (3:Int)).bind fun m=>(some (({Kind:=(IntKind.u8.wrap (IntKind.i64.wrap ((1:Int)+a.1))),ID:=({Session:=(0:Int),Seq:=(0:Int)}:bK),Epoch:=(0:Int),Index:=(0:Int),E:=(0:Int),Hold:=ea,Writes:=[],R:=bI,Shards:=(0:Int),Parts:=[],Rule:=l.1,On:=(decide (m.1>(0:Int)))}:aC),m.2)))) else (bif ((IntKind.u8.wrap (IntKind.i64.wrap ((1:Int)+a.1)))==(7:Int)) then ((eC a.2).bind fun n=>((aF n.2 (4:Int)).bind fun o=>((kH o.2).bind fun p=>((fp p.2).bind fun q=>((gX q.2).bind fun s=>(some (({Kind:=(IntKind.u8.wrap (IntKind.i64.wrap ((1:Int)+a.1))),ID:=n.1,Epoch:=(IntKind.u64.wrap (IntKind.i64.wrap ((1:Int)+o.1))),Index:=(0:Int),E:=(0:Int),Hold:=ea,Writes:=q.1,R:=s.1,Shards:=(0:Int),Parts:=[],Rule:=p.1,On:=false}:aC),s.2))))))) else (some (({Kind:=(IntKind.u8.wrap (IntKind.i64.wrap ((1:Int)+a.1))),ID:=({Session:=(0:Int),Seq:=(0:Int)}:bK),Epoch:=(0:Int),Index:=(0:Int),E:=(0:Int),Hold:=ea,Writes:=[],R:=bI,Shards:=(0:Int),Parts:=[],Rule:=eB,On:=false}:aC),a.2))))))))))
noncomputable def gJ (a:ai) (b:(Int)):Option ((Int) ⊕ (Bool)) :=
 (bif (decide (b<((a.H).length:Int))) then ((da a.H b).bind fun c=>(bif (decide (c.Epoch≤a.Epoch)) then (bt (some false)) else (some (Sum.inl (IntKind.i64.wrap (b+(1:Int))))))) else (bt (some true)))
noncomputable def iA (a:ai):Option (Bool) :=
 (br (gJ a) (0:Int))
noncomputable def lq (c:(List al)) (d:bK) (a:(Int)):Option ((Int) ⊕ (al×Bool)) :=
 (bif (decide (a<((c).length:Int))) then ((da c a).bind fun b=>(bif ((b.ID.Session==d.Session)&&(b.ID.Seq==d.Seq)) then (bt (some (b,true))) else (some (Sum.inl (IntKind.i64.wrap (a+(1:Int))))))) else (bt (some (ea,false))))
noncomputable def kI (a:(List al)) (b:bK):Option (al×Bool) :=
 (br (lq a b) (0:Int))
noncomputable def me (a:Nat):Option (Bool) :=
 (some (decide ((IntKind.i64.wrap (Int.ofNat a))<(0:Int))))
noncomputable def nB (a b:Nat) (c:Unit):Option (Bool) :=
 (some (fLt a b))
noncomputable def jy (a b:Nat):Option (Bool) :=
 (bif (fNe a a) then (some false) else (bif (fNe b b) then (some true) else (iJ (bif (fEq a (0:Nat)) then (bif (fEq b (0:Nat)) then ((me a).bind fun c=>(bif c then ((me b).bind fun d=>(bt (some (!d)))) else (bt (some false)))) else (some (Sum.inl ()))) else (some (Sum.inl ()))) (nB a b))))
noncomputable def eG (a b:Nat):Option (Bool) :=
 ((jy a b).bind fun c=>(bif (!c) then ((jy b a).bind fun d=>(some (!d))) else (some false)))
noncomputable def fQ (b c:al) (a:(Int)):Option ((Int) ⊕ (Unit ⊕ (Bool))) :=
 (bif (decide (a<((b.Gets).length:Int))) then ((da b.Gets a).bind fun d=>((da c.Gets a).bind fun e=>((eG d e).bind fun f=>(bif (!f) then (bt (bt (some false))) else (some (Sum.inl (IntKind.i64.wrap (a+(1:Int))))))))) else (bt (some (Sum.inl ()))))
noncomputable def fM (b e:al) (a:(Int)):Option ((Int) ⊕ (Unit ⊕ (Bool))) :=
 (bif (decide (a<((b.Scans).length:Int))) then ((da b.Scans a).bind fun c=>((da e.Scans a).bind fun d=>((eG c.1 d.1).bind fun f=>(bif (!f) then (bt (bt (some false))) else ((eG c.2 d.2).bind fun g=>(bif (!g) then (bt (bt (some false))) else (some (Sum.inl (IntKind.i64.wrap (a+(1:Int))))))))))) else (bt (some (Sum.inl ()))))
noncomputable def fL (b c:al) (a:(Int)):Option ((Int) ⊕ (Bool)) :=
 (bif (decide (a<((b.Puts).length:Int))) then ((da b.Puts a).bind fun d=>((da c.Puts a).bind fun e=>((eG d e).bind fun f=>(bif (!f) then (bt (some false)) else (some (Sum.inl (IntKind.i64.wrap (a+(1:Int))))))))) else (bt (some true)))
noncomputable def nI (a b:al) (c:Unit):Option (Bool) :=
 (br (fL a b) (0:Int))
noncomputable def lC (a b:al) (c:Unit):Option (Bool) :=
 (iJ (br (fM a b) (0:Int)) (nI a b))
noncomputable def ja (a b:al):Option (Bool) :=
 (bif (!((a.ID.Session==b.ID.Session)&&(a.ID.Seq==b.ID.Seq))) then (some false) else (bif (a.Epoch !=b.Epoch) then (some false) else (bif (((a.Gets).length:Int) !=((b.Gets).length:Int)) then (some false) else (bif (((a.Scans).length:Int) !=((b.Scans).length:Int)) then (some false) else (bif (((a.Puts).length:Int) !=((b.Puts).length:Int)) then (some false) else (bif (!(sEq (jf a.Data) (jf b.Data))) then (some false) else (iJ (br (fQ a b) (0:Int)) (lC a b))))))))
noncomputable def mj (b:(List Nat)) (c:Nat) (a:(Int)):Option ((Int) ⊕ (Bool)) :=
 (bif (decide (a<((b).length:Int))) then ((da b a).bind fun d=>((eG d c).bind fun e=>(bif e then (bt (some true)) else (some (Sum.inl (IntKind.i64.wrap (a+(1:Int)))))))) else (bt (some false)))
noncomputable def pp (a:(List Nat)) (b:Nat):Option (Bool) :=
 (br (mj a b) (0:Int))
noncomputable def jN (a b c:Nat):Option (Bool) :=
 ((jy a b).bind fun d=>(bif (!d) then ((jy c a).bind fun e=>(some (!e))) else (some false)))
noncomputable def kb (b:al) (d:Nat) (a:(Int)):Option ((Int) ⊕ (Unit ⊕ (Bool))) :=
 (bif (decide (a<((b.Scans).length:Int))) then ((da b.Scans a).bind fun c=>((jN d c.1 c.2).bind fun e=>(bif e then (bt (bt (some true))) else (some (Sum.inl (IntKind.i64.wrap (a+(1:Int)))))))) else (bt (some (Sum.inl ()))))
noncomputable def lM (a:al) (b:Nat) (d:Unit):Option (Bool) :=
 ((pp a.Gets b).bind fun c=>(some c))
noncomputable def nk (a:al) (b:Nat):Option (Bool) :=
 (iJ (br (kb a b) (0:Int)) (lM a b))
noncomputable def lh (b c:al) (a:(Int)):Option ((Int) ⊕ (Unit ⊕ (Bool))) :=
 (bif (decide (a<((b.Puts).length:Int))) then ((da b.Puts a).bind fun d=>((pp c.Puts d).bind fun e=>(bif e then (bt (bt (some true))) else ((nk c d).bind fun f=>(bif f then (bt (bt (some true))) else (some (Sum.inl (IntKind.i64.wrap (a+(1:Int)))))))))) else (bt (some (Sum.inl ()))))
noncomputable def lp (b c:al) (a:(Int)):Option ((Int) ⊕ (Bool)) :=
 (bif (decide (a<((b.Puts).length:Int))) then ((da b.Puts a).bind fun d=>((nk c d).bind fun e=>(bif e then (bt (some true)) else (some (Sum.inl (IntKind.i64.wrap (a+(1:Int)))))))) else (bt (some false)))
noncomputable def mH (a b:al) (c:Unit):Option (Bool) :=
 (br (lp a b) (0:Int))
noncomputable def pO (a b:al):Option (Bool) :=
 (iJ (br (lh a b) (0:Int)) (mH b a))
noncomputable def lv (d:(List al)) (e:bK) (s:((List al)×Int)):Option (((List al)×Int) ⊕ ((List al))) :=
 match s with | (a,b)=>(bif (decide (b<((d).length:Int))) then ((da d b).bind fun c=>(bif (!((c.ID.Session==e.Session)&&(c.ID.Seq==e.Seq))) then (gd (room a ([c])) (some (Sum.inl ((a++([c])),(IntKind.i64.wrap (b+(1:Int))))))) else (some (Sum.inl (a,(IntKind.i64.wrap (b+(1:Int)))))))) else (bt (some a)))
noncomputable def oi (a:(List al)) (b:bK):Option ((List al)) :=
 (br (lv a b) ([],(0:Int)))
noncomputable def lx (b:(List al)) (c:al) (a:(Int)):Option ((Int) ⊕ (Unit ⊕ ((List al)×Bool))) :=
 (bif (decide (a<((b).length:Int))) then ((da b a).bind fun d=>(bif (!((d.ID.Session==c.ID.Session)&&(d.ID.Seq==c.ID.Seq))) then ((pO d c).bind fun e=>(bif e then (bt (bt (some (b,false)))) else (some (Sum.inl (IntKind.i64.wrap (a+(1:Int))))))) else (some (Sum.inl (IntKind.i64.wrap (a+(1:Int))))))) else (bt (some (Sum.inl ()))))
noncomputable def ow (a:((List al))):Option ((List al)×Bool) :=
 (some (a,true))
noncomputable def mK (c:(List al)) (a:al) (d:Unit):Option ((List al)×Bool) :=
 ((((oi c a.ID).bind fun b=>(gd (room b ([a])) (some (b++([a])))))).bind (ow))
noncomputable def nZ (a:(List al)) (b:al):Option ((List al)×Bool) :=
 (iJ (br (lx a b) (0:Int)) (mK a b))
noncomputable def dV (a:ai) (c:al) (d:Unit):Option (Int×ai) :=
 ((nZ a.H c).bind fun b=>(bif (!b.2) then (some ((8:Int),a)) else (some ((0:Int),({a with H:=b.1}:ai)))))
noncomputable def mr (c:Bool) (b:al) (a:ai) (d:Unit):Option (Int×ai) :=
 (iJ (bif (!c) then (bif (b.Epoch !=a.Epoch) then (bt (some ((9:Int),a))) else (some (Sum.inl ()))) else (some (Sum.inl ()))) (dV a b))
noncomputable def my (c:Bool) (a:al) (b:ai) (d:Int) (e:Unit):Option (Int×ai) :=
 (iJ (bif c then (bif (decide (a.ID.Session<(9223372036854775808:Int))) then (bt (some ((8:Int),b))) else (bif (decide (a.Epoch≤d)) then (bt (some ((8:Int),b))) else (some (Sum.inl ())))) else (some (Sum.inl ()))) (mr c a b))
noncomputable def mw (a:al) (b:ai) (s:(Int×Int×Int×(List Nat)×(List (Nat×Nat))×(List Nat)×(List Int)×Bool)):Option (Int×ai) :=
 match s with | (e,f,c,g,h,i,j,d)=>(iJ (bif d then ((ja ({ID:=({Session:=e,Seq:=f}:bK),Epoch:=c,Gets:=g,Scans:=h,Puts:=i,Data:=j}:al) a).bind fun k=>(bif k then (bt (some ((0:Int),b))) else (some (Sum.inl ())))) else (some (Sum.inl ()))) (my d a b c))
noncomputable def iV (b:ai) (c:al):Option (Int×ai) :=
 ((((kI b.H c.ID).bind fun a=>(some (a.1.ID.Session,a.1.ID.Seq,a.1.Epoch,a.1.Gets,a.1.Scans,a.1.Puts,a.1.Data,a.2)))).bind (mw c b))
noncomputable def ly (d:(List aB)) (f:Nat) (g:Int) (s:(Int×Int)):Option ((Int×Int) ⊕ (Int)) :=
 match s with | (b,a)=>(bif (decide (a<((d).length:Int))) then ((da d a).bind fun c=>((eG c.At f).bind fun h=>(bif h then (bif (decide (c.Epoch≤g)) then (bif (decide (b<(0:Int))) then (some (Sum.inl (a,(IntKind.i64.wrap (a+(1:Int)))))) else ((da d b).bind fun e=>(bif (decide (e.Epoch<c.Epoch)) then (some (Sum.inl (a,(IntKind.i64.wrap (a+(1:Int)))))) else (bif (e.Epoch==c.Epoch) then (bif (decide (e.Index<c.Index)) then (some (Sum.inl (a,(IntKind.i64.wrap (a+(1:Int)))))) else (some (Sum.inl (b,(IntKind.i64.wrap (a+(1:Int))))))) else (some (Sum.inl (b,(IntKind.i64.wrap (a+(1:Int)))))))))) else (some (Sum.inl (b,(IntKind.i64.wrap (a+(1:Int))))))) else (some (Sum.inl (b,(IntKind.i64.wrap (a+(1:Int))))))))) else (bt (some b)))
noncomputable def pM (a:(List aB)) (b:Nat) (c:Int):Option (Int) :=
 (br (ly a b c) (((-1):Int),(0:Int)))
noncomputable def iU (a:(List aB)) (d:Nat) (e:Int):Option (cp) :=
 ((pM a d e).bind fun b=>(bif (decide (b<(0:Int))) then (some ({Has:=false,Val:=[]}:cp)) else ((da a b).bind fun c=>(bif c.Del then (some ({Has:=false,Val:=[]}:cp)) else (some ({Has:=true,Val:=c.Val}:cp))))))
noncomputable def kz (b:(List Nat)) (c:(List aB)) (d:Int) (a:(Int)):Option ((Int) ⊕ (Int)) :=
 (bif (decide (a<((b).length:Int))) then ((da b a).bind fun e=>((da c d).bind fun f=>((jy e f.At).bind fun g=>(bif g then (some (Sum.inl (IntKind.i64.wrap (a+(1:Int))))) else (bt (some a)))))) else (bt (some a)))
noncomputable def kA (a:(List Nat)) (f:(List aB)) (c:Int) (b:(Int)):Option (((List Nat)×Int) ⊕ ((List Nat))) :=
 (bif (decide (b<((a).length:Int))) then ((da a b).bind fun g=>((da f c).bind fun d=>((eG g d.At).bind fun h=>(bif h then (some (Sum.inl (a,(IntKind.i64.wrap (c+(1:Int)))))) else (gd (fits a (0:Int) b) (gd (room ([]:List Nat) (nc a (0:Int) b)) (gd (room (nc a (0:Int) b) ([d.At])) (gd (fits a b (((a).length:Nat):Int)) (gd (room ((nc a (0:Int) b)++([d.At])) (nc a b (((a).length:Nat):Int))) (some (Sum.inl ((((nc a (0:Int) b)++([d.At]))++(nc a b (((a).length:Nat):Int))),(IntKind.i64.wrap (c+(1:Int))))))))))))))) else (gd (fits a (0:Int) b) (gd (room ([]:List Nat) (nc a (0:Int) b)) ((da f c).bind fun e=>(gd (room (nc a (0:Int) b) ([e.At])) (gd (fits a b (((a).length:Nat):Int)) (gd (room ((nc a (0:Int) b)++([e.At])) (nc a b (((a).length:Nat):Int))) (some (Sum.inl ((((nc a (0:Int) b)++([e.At]))++(nc a b (((a).length:Nat):Int))),(IntKind.i64.wrap (c+(1:Int)))))))))))))
noncomputable def mg (a:(List aB)) (s:((List Nat)×Int)):Option (((List Nat)×Int) ⊕ ((List Nat))) :=
 match s with | (b,c)=>(bif (decide (c<((a).length:Int))) then (((br (kz b a c) (0:Int))).bind (kA b a c)) else (bt (some b)))
noncomputable def qA (a:(List aB)):Option ((List Nat)) :=
 (br (mg a) ([],(0:Int)))
noncomputable def lf (e:((List Nat))) (f:Int) (g:(List aB)) (h:Int) (i j:Nat) (s:((List bM)×Int)):Option (((List bM)×Int) ⊕ ((List bM))) :=
 match s with | (a,b)=>(bif (decide (b<((e).length:Int))) then (bif (decide (((a).length:Int)<f)) then ((da e b).bind fun c=>((iU g c h).bind fun d=>(bif d.Has then ((jN c i j).bind fun k=>(bif k then (gd (room a ([({At:=c,Val:=d.Val}:bM)])) (some (Sum.inl ((a++([({At:=c,Val:=d.Val}:bM)])),(IntKind.i64.wrap (b+(1:Int))))))) else (some (Sum.inl (a,(IntKind.i64.wrap (b+(1:Int)))))))) else (some (Sum.inl (a,(IntKind.i64.wrap (b+(1:Int))))))))) else (bt (some a))) else (bt (some a)))
noncomputable def lS (a:(List aB)) (b c:Nat) (d e:Int):Option ((List bM)) :=
 ((qA a).bind fun f=>(br (lf f e a d b c) ([],(0:Int))))
noncomputable def gj (c:al) (e:ai) (s:((List cp)×Int)):Option (((List cp)×Int) ⊕ ((List cp))) :=
 match s with | (a,b)=>(bif (decide (b<((c.Gets).length:Int))) then ((da c.Gets b).bind fun f=>((iU e.V f (18446744073709551615:Int)).bind fun d=>(gd (room a ([d])) (some (Sum.inl ((a++([d])),(IntKind.i64.wrap (b+(1:Int))))))))) else (bt (some a)))
noncomputable def fc (c:al) (f:ai) (g:(List cp)) (s:((List (List bM))×Int)):Option (((List (List bM))×Int) ⊕ (bp)) :=
 match s with | (a,b)=>(bif (decide (b<((c.Scans).length:Int))) then ((da c.Scans b).bind fun d=>((lS f.V d.1 d.2 (18446744073709551615:Int) (64:Int)).bind fun e=>(gd (room a ([e])) (some (Sum.inl ((a++([e])),(IntKind.i64.wrap (b+(1:Int))))))))) else (bt (some ({E:=(0:Int),Epoch:=(0:Int),Index:=(0:Int),Gots:=g,Scans:=a}:bp))))
noncomputable def jX (a:al) (b:ai) (c:((List cp))):Option (bp) :=
 (br (fc a b c) ([],(0:Int)))
noncomputable def iP (a:ai) (b:al):Option (bp) :=
 (((br (gj b a) ([],(0:Int)))).bind (jX b a))
noncomputable def lX (e:(List aB)) (d:aB) (s:((List aB)×Int)):Option (((List aB)×Int) ⊕ ((List aB))) :=
 match s with | (b,c)=>(bif (decide (c<((e).length:Int))) then ((da e c).bind fun a=>((eG a.At d.At).bind fun f=>(bif (!f) then (gd (room b ([a])) (some (Sum.inl ((b++([a])),(IntKind.i64.wrap (c+(1:Int))))))) else (bif (a.Epoch !=d.Epoch) then (gd (room b ([a])) (some (Sum.inl ((b++([a])),(IntKind.i64.wrap (c+(1:Int))))))) else (bif (a.Index !=d.Index) then (gd (room b ([a])) (some (Sum.inl ((b++([a])),(IntKind.i64.wrap (c+(1:Int))))))) else (some (Sum.inl (b,(IntKind.i64.wrap (c+(1:Int))))))))))) else (bt (some b)))
noncomputable def ph (b:(List aB)) (a:aB) (c:((List Int))):Option ((List aB)) :=
 (gd (room b ([({a with Val:=c}:aB)])) (some (b++([({a with Val:=c}:aB)]))))
noncomputable def oY (a:aB) (b:((List aB))):Option ((List aB)) :=
 (((bif a.Del then (some ([])) else (some a.Val))).bind (ph b a))
noncomputable def om (b:(List aB)) (a:aB):Option ((List aB)) :=
 (((br (lX b a) ([],(0:Int)))).bind (oY a))
noncomputable def jR (b:(List cq)) (c:Int) (a:(Int)):Option ((Int) ⊕ (cq)) :=
 (bif (decide (a<((b).length:Int))) then ((da b a).bind fun d=>(bif (d.Session==c) then (bt (some d)) else (some (Sum.inl (IntKind.i64.wrap (a+(1:Int))))))) else (bt (some ({Session:=c,Seq:=(0:Int),R:=bI}:cq))))
noncomputable def iC (a:(List cq)) (b:Int):Option (cq) :=
 (br (jR a b) (0:Int))
noncomputable def iL (d:(List cq)) (e:Int) (s:((List cq)×Int)):Option (((List cq)×Int) ⊕ ((List cq)×Int)) :=
 match s with | (a,b)=>(bif (decide (b<((d).length:Int))) then ((da d b).bind fun c=>(bif (c.Session !=e) then (gd (room a ([c])) (some (Sum.inl ((a++([c])),(IntKind.i64.wrap (b+(1:Int))))))) else (some (Sum.inl (a,(IntKind.i64.wrap (b+(1:Int)))))))) else (bt (some (a,(0:Int)))))
noncomputable def ng (a:(List cq)) (b c:Int) (d:bp):Option ((List cq)×Int) :=
 (bif (c==(0:Int)) then (some (a,(1:Int))) else ((iC a b).bind fun e=>(bif (decide (e.Seq≥c)) then (some (a,(10:Int))) else (br (iL a b) ([({Session:=b,Seq:=c,R:=d}:cq)],(0:Int))))))
noncomputable def fj (d:ai) (e:bK) (s:((List bA)×Int)):Option (((List bA)×Int) ⊕ ((List bA))) :=
 match s with | (a,b)=>(bif (decide (b<((d.Open).length:Int))) then ((da d.Open b).bind fun c=>(bif (!((c.ID.Session==e.Session)&&(c.ID.Seq==e.Seq))) then (gd (room a ([c])) (some (Sum.inl ((a++([c])),(IntKind.i64.wrap (b+(1:Int))))))) else (some (Sum.inl (a,(IntKind.i64.wrap (b+(1:Int)))))))) else (bt (some a)))
noncomputable def jq (a:ai) (b:((List bA))):Option (ai) :=
 (some ({a with Open:=b}:ai))
noncomputable def fB (a:ai) (b:bK):Option (ai) :=
 (((br (fj a b) ([],(0:Int)))).bind (jq a))
noncomputable def jl (a:(ai)) (b:aC) (c d:Int) (e:((List dX))):Option (ai) :=
 (gd (room a.Open ([({b with E:=c,Index:=d,Parts:=e}:bA)])) (some ({a with Open:=(a.Open++([({b with E:=c,Index:=d,Parts:=e}:bA)]))}:ai)))
noncomputable def jm (a:aC) (b c:Int) (d:(List cp)) (e:(List (List bM))) (f:(ai)):Option (bh×ai) :=
 (some (({Kind:=(4:Int),ID:=a.ID,R:=({E:=b,Epoch:=a.Epoch,Index:=c,Gots:=d,Scans:=e}:bp)}:bh),f))
noncomputable def jn (a:ai) (b:aC) (c d:Int) (f:(List cp)) (g:(List (List bM))) (j:Unit):Option (bh×ai) :=
 ((ng a.A b.ID.Session b.ID.Seq ({E:=c,Epoch:=b.Epoch,Index:=d,Gots:=f,Scans:=g}:bp)).bind fun e=>(bif (e.2 !=(0:Int)) then ((iC a.A b.ID.Session).bind fun h=>(bif (decide (h.Seq>b.ID.Seq)) then (some (({Kind:=(4:Int),ID:=b.ID,R:=({E:=(10:Int),Epoch:=(0:Int),Index:=(0:Int),Gots:=[],Scans:=[]}:bp)}:bh),a)) else (some (bG,a)))) else (((bif (b.Shards !=(0:Int)) then ((fB ({a with A:=e.1}:ai) b.ID).bind fun i=>(((bif (c==(0:Int)) then (some b.Parts) else (some ([])))).bind (jl i b c d))) else (some ({a with A:=e.1}:ai)))).bind (jm b c d f g))))
noncomputable def gG (a:aC) (b:ai) (d:Int) (s:(Int×(List cp)×(List (List bM)))):Option (bh×ai) :=
 match s with | (c,e,f)=>(iJ (bif (c !=(0:Int)) then (bif (decide (a.ID.Session≥(9223372036854775808:Int))) then (bt (some (bG,b))) else (some (Sum.inl ()))) else (some (Sum.inl ()))) (jn b a c d e f))
noncomputable def gU (b:ai) (c:Int) (a:aC):Option (bh×ai) :=
 (((bif (a.R.E==(0:Int)) then (bif (a.Epoch !=b.Epoch) then (some ((9:Int),[],[])) else (some (a.R.E,a.R.Gots,a.R.Scans))) else (some (a.R.E,a.R.Gots,a.R.Scans)))).bind (gG a b c))
noncomputable def ju (b:(List cD)) (a:cD) (d:Int) (s:(Bool×Int)):Option ((Int×(List cD)×Bool) ⊕ ((List cD)×Bool)) :=
 match s with | (e,c)=>(gd (room b ([({a with To:=c}:cD)])) (some (Sum.inl ((IntKind.i64.wrap (d+(1:Int))),(b++([({a with To:=c}:cD)])),e))))
noncomputable def iu (d:(List cD)) (f g:Int) (s:(Int×(List cD)×Bool)):Option ((Int×(List cD)×Bool) ⊕ ((List cD)×Bool)) :=
 match s with | (b,e,c)=>(bif (decide (b<((d).length:Int))) then ((da d b).bind fun a=>(((bif (a.R.ID==f) then (bif (a.To==(0:Int)) then (some (true,g)) else (some (c,a.To))) else (some (c,a.To)))).bind (ju e a b))) else (bt (some (e,c))))
noncomputable def oL (s:((List cD)×Bool)):Option ((List cD)×Bool) :=
 match s with | (a,b)=>(some (a,b))
noncomputable def kV (a:(List cD)) (b:Int) (c:(Int)):Option ((List cD)×Bool) :=
 (((br (iu a b c) ((0:Int),[],false))).bind (oL))
noncomputable def mh (b:(List cD)) (c a:Int):Option ((List cD)×Bool) :=
 (((bif (a==(0:Int)) then (some (1:Int)) else (some a))).bind (kV b c))
noncomputable def oZ (a:(List Int)) (c:Int) (b:(Int)):Option (((List Int)×Int) ⊕ ((List Int))) :=
 (gd (room a ([b])) (some (Sum.inl ((a++([b])),(IntKind.i64.wrap (c+(1:Int)))))))
noncomputable def jC (d:Int) (b:bN) (s:((List Int)×Int)):Option (((List Int)×Int) ⊕ ((List Int))) :=
 match s with | (c,a)=>(bif (decide (a<d)) then (bif (!b.Del) then (((bif (decide (a<((b.Val).length:Int))) then ((da b.Val a).bind fun e=>(some e)) else (some (0:Int)))).bind (oZ c a)) else (bt (some c))) else (bt (some c)))
noncomputable def nM (a:bN) (b:((List Int))):Option (bN) :=
 (some ({a with Val:=b}:bN))
noncomputable def qq (a:bN) (b:Int):Option (bN) :=
 (((br (jC b a) ([],(0:Int)))).bind (nM a))
noncomputable def fg (e:ai) (f:aC) (s:(Int×Int×(List dy))):Option ((Int×Int×(List dy)) ⊕ (Int×(List dy))) :=
 match s with | (d,a,b)=>(bif (decide (a<((e.Used).length:Int))) then ((da e.Used a).bind fun c=>(bif (c.Rule !=f.Rule.ID) then (gd (room b ([c])) (some (Sum.inl (d,(IntKind.i64.wrap (a+(1:Int))),(b++([c])))))) else (bif (c.Epoch==f.Epoch) then (some (Sum.inl (c.N,(IntKind.i64.wrap (a+(1:Int))),b))) else (some (Sum.inl (d,(IntKind.i64.wrap (a+(1:Int))),b)))))) else (bt (some (d,b))))
noncomputable def fb (d:ai) (e:aC) (s:((List cW)×Int)):Option (((List cW)×Int) ⊕ ((List cW))) :=
 match s with | (a,b)=>(bif (decide (b<((d.Out).length:Int))) then ((da d.Out b).bind fun c=>(bif (c.To==e.Rule.To) then (gd (room a ([c])) (some (Sum.inl ((a++([c])),(IntKind.i64.wrap (b+(1:Int))))))) else (some (Sum.inl (a,(IntKind.i64.wrap (b+(1:Int)))))))) else (bt (some a)))
noncomputable def jZ (a:aC) (b c:Int) (d:(ai)):Option (bh×ai) :=
 (some (({Kind:=(4:Int),ID:=a.ID,R:=({E:=b,Epoch:=a.Epoch,Index:=c,Gots:=[],Scans:=[]}:bp)}:bh),d))
noncomputable def dI (a:ai) (b:aC) (e:Int) (f:(List dy)) (g:Int) (c:(Int)):Option (bh×ai) :=
 ((ng a.A b.ID.Session b.ID.Seq ({E:=c,Epoch:=b.Epoch,Index:=e,Gots:=[],Scans:=[]}:bp)).bind fun d=>(bif (d.2 !=(0:Int)) then ((iC a.A b.ID.Session).bind fun j=>(bif (decide (j.Seq>b.ID.Seq)) then (some (({Kind:=(4:Int),ID:=b.ID,R:=({E:=(10:Int),Epoch:=(0:Int),Index:=(0:Int),Gots:=[],Scans:=[]}:bp)}:bh),a)) else (some (bG,a)))) else (((bif (c==(0:Int)) then (gd (room f ([({Rule:=b.Rule.ID,Epoch:=b.Epoch,N:=(IntKind.i64.wrap (g+(1:Int)))}:dy)])) ((da b.Writes (0:Int)).bind fun k=>((br (fb a b) ([],(0:Int))).bind fun h=>((qq k a.Wide).bind fun i=>(gd (room a.Out ([({To:=b.Rule.To,N:=(IntKind.u64.wrap (IntKind.i64.wrap (((h).length:Int)+(1:Int)))),Rule:=b.Rule.ID,Epoch:=b.Epoch,W:=i}:cW)])) (some ({a with A:=d.1,Out:=(a.Out++([({To:=b.Rule.To,N:=(IntKind.u64.wrap (IntKind.i64.wrap (((h).length:Int)+(1:Int)))),Rule:=b.Rule.ID,Epoch:=b.Epoch,W:=i}:cW)])),Used:=(f++([({Rule:=b.Rule.ID,Epoch:=b.Epoch,N:=(IntKind.i64.wrap (g+(1:Int)))}:dy)]))}:ai))))))) else (some ({a with A:=d.1}:ai)))).bind (jZ b c e))))
noncomputable def iH (b:Int) (c:aC) (d:ai) (e:Int) (f:(List dy)) (a:(Int)):Option (bh×ai) :=
 (((bif (a==(0:Int)) then (bif (decide (b≥c.Rule.Quota)) then (some (13:Int)) else (some a)) else (some a))).bind (dI d c e f b))
noncomputable def iE (b:aC) (c:Int) (d:ai) (e:Int) (f:(List dy)) (a:(Int)):Option (bh×ai) :=
 (((bif (a==(0:Int)) then (bif (((b.Writes).length:Int) !=(1:Int)) then (some (1:Int)) else (some a)) else (some a))).bind (iH c b d e f))
noncomputable def jW (a:aC) (b:ai) (c:Int) (s:(Int×(List dy))):Option (bh×ai) :=
 match s with | (d,e)=>(((bif (a.R.E==(0:Int)) then (bif (a.Epoch !=b.Epoch) then (some (9:Int)) else (some a.R.E)) else (some a.R.E))).bind (iE a d b c e))
noncomputable def iS (a:ai) (c:Int) (b:aC):Option (bh×ai) :=
 (((br (fg a b) ((0:Int),(0:Int),[]))).bind (jW b a c))
noncomputable def jF (b:(Int×ai)) (a:(bh)):Option (bh×ai) :=
 (some (({a with R:=({a.R with E:=b.1}:bp)}:bh),b.2))
noncomputable def du (e:Bool) (b:aC) (s:(ai×Int)):Option ((ai×Int) ⊕ (ai)) :=
 match s with | (a,c)=>(bif e then (bif (b.E==(0:Int)) then (bif (decide (c<((b.Writes).length:Int))) then ((da b.Writes c).bind fun d=>((om a.V ({d with Epoch:=b.Epoch,Index:=b.Index}:aB)).bind fun f=>(some (Sum.inl (({a with V:=f}:ai),(IntKind.i64.wrap (c+(1:Int)))))))) else (bt (some a))) else (bt (some a))) else (bt (some a)))
noncomputable def lK (a:aC) (b:(ai)):Option (bh×ai) :=
 (some (({Kind:=(3:Int),ID:=a.ID,R:=bI}:bh),b))
noncomputable def ib (a:ai) (b:aC) (c:(Bool)):Option (bh×ai) :=
 ((oi a.H b.ID).bind fun d=>(((br (du c b) (({a with H:=d}:ai),(0:Int)))).bind (lK b)))
noncomputable def cr (a:ai) (e:Int) (b:aC):Option (bh×ai) :=
 (bif (b.Kind==(1:Int)) then (bif (b.Epoch !=a.Epoch) then (some (bG,a)) else ((iA a).bind fun h=>(bif (!h) then (some (bG,a)) else (bif (decide ((IntKind.u64.wrap (a.Epoch+(1:Int)))>(9:Int))) then none else (some (({Kind:=(1:Int),ID:=({Session:=(0:Int),Seq:=(0:Int)}:bK),R:=bI}:bh),({a with Epoch:=(IntKind.u64.wrap (a.Epoch+(1:Int)))}:ai))))))) else (bif (b.Kind==(2:Int)) then ((iV a b.Hold).bind fun c=>(((bif (c.1==(0:Int)) then ((iP c.2 b.Hold).bind fun i=>(some ({Kind:=(2:Int),ID:=b.Hold.ID,R:=i}:bh))) else (some ({Kind:=(2:Int),ID:=b.Hold.ID,R:=bI}:bh)))).bind (jF c))) else (bif (b.Kind==(3:Int)) then ((((kI a.H b.ID).bind fun j=>(some j.2))).bind (ib a b)) else (bif (b.Kind==(4:Int)) then ((gU a e b).bind fun f=>(some (f.1,f.2))) else (bif (b.Kind==(5:Int)) then ((fB a b.ID).bind fun k=>(some (bG,k))) else (bif (b.Kind==(6:Int)) then ((mh a.B b.Rule.ID a.Epoch).bind fun d=>(bif b.On then (gd (room d.1 ([({R:=b.Rule,From:=a.Epoch,To:=(0:Int)}:cD)])) (some (bG,({a with B:=(d.1++([({R:=b.Rule,From:=a.Epoch,To:=(0:Int)}:cD)]))}:ai)))) else (some (bG,({a with B:=d.1}:ai))))) else (bif (b.Kind==(7:Int)) then ((iS a e b).bind fun g=>(some (g.1,g.2))) else (some (bG,a)))))))))
noncomputable def fh (b e:(List cp)) (a:(Int)):Option ((Int) ⊕ (Bool)) :=
 (bif (decide (a<((b).length:Int))) then ((da b a).bind fun c=>((da e a).bind fun d=>(bif (!(c.Has==d.Has)) then none else (bif (!(sEq (jf c.Val) (jf d.Val))) then none else (some (Sum.inl (IntKind.i64.wrap (a+(1:Int))))))))) else (bt (some true)))
noncomputable def fN (a b:(List cp)):Option (Bool) :=
 (bif (((a).length:Int) !=((b).length:Int)) then none else (br (fh a b) (0:Int)))
noncomputable def fw (b e:(List bM)) (a:(Int)):Option ((Int) ⊕ (Bool)) :=
 (bif (decide (a<((b).length:Int))) then ((da b a).bind fun c=>((da e a).bind fun d=>((eG c.At d.At).bind fun f=>(bif (!f) then none else (bif (!(sEq (jf c.Val) (jf d.Val))) then none else (some (Sum.inl (IntKind.i64.wrap (a+(1:Int)))))))))) else (bt (some true)))
noncomputable def gB (a b:(List bM)):Option (Bool) :=
 (bif (((a).length:Int) !=((b).length:Int)) then none else (br (fw a b) (0:Int)))
noncomputable def fA (b c:bp) (a:(Int)):Option ((Int) ⊕ (Bool)) :=
 (bif (decide (a<((b.Scans).length:Int))) then ((da b.Scans a).bind fun d=>((da c.Scans a).bind fun e=>((gB d e).bind fun f=>(bif (!f) then none else (some (Sum.inl (IntKind.i64.wrap (a+(1:Int))))))))) else (bt (some true)))
noncomputable def eV (a b:bp):Option (Bool) :=
 (bif (a.E !=b.E) then none else (bif (a.Epoch !=b.Epoch) then none else (bif (a.Index !=b.Index) then none else ((fN a.Gots b.Gots).bind fun c=>(bif (!c) then none else (bif (((a.Scans).length:Int) !=((b.Scans).length:Int)) then none else (br (fA a b) (0:Int))))))))
noncomputable def ka (a b:bh):Option (Bool) :=
 (bif (a.Kind==b.Kind) then (bif ((a.ID.Session==b.ID.Session)&&(a.ID.Seq==b.ID.Seq)) then ((eV a.R b.R).bind fun c=>(some c)) else none) else none)
noncomputable def dt (a:(List bA)):Option ((List bA)) :=
 gd (room ([]:(List bA)) a) (some a)
noncomputable def kS (a:(Option ae)):Option ((List bA)) :=
 (match a with | none=>none | some b=>((dt b.open_).bind fun c=>(some c)))
noncomputable def fe (d e:(List bN)) (a:(Int)):Option ((Int) ⊕ (Bool)) :=
 (bif (decide (a<((d).length:Int))) then ((da d a).bind fun b=>((da e a).bind fun c=>((eG b.At c.At).bind fun f=>(bif (!f) then none else (bif (!(b.Del==c.Del)) then none else (bif (!(sEq (jf b.Val) (jf c.Val))) then none else (some (Sum.inl (IntKind.i64.wrap (a+(1:Int))))))))))) else (bt (some true)))
noncomputable def fI (a b:(List bN)):Option (Bool) :=
 (bif (((a).length:Int) !=((b).length:Int)) then none else (br (fe a b) (0:Int)))
noncomputable def ei (b f:bA) (s:(Bool×Int)):Option ((Bool×Int) ⊕ (Bool)) :=
 match s with | (c,a)=>(bif (decide (a<((b.Parts).length:Int))) then (bif c then ((da b.Parts a).bind fun d=>((da f.Parts a).bind fun e=>(bif (d.Shard==e.Shard) then ((fI d.Writes e.Writes).bind fun g=>(some (Sum.inl (g,(IntKind.i64.wrap (a+(1:Int))))))) else (some (Sum.inl (false,(IntKind.i64.wrap (a+(1:Int))))))))) else (some (Sum.inl (false,(IntKind.i64.wrap (a+(1:Int))))))) else (bt (some c)))
noncomputable def kM (b:Bool) (a:Int) (c:(Bool)):Option ((Bool×Int) ⊕ ((Int) ⊕ (Bool))) :=
 (bif b then (some (Sum.inl (true,(IntKind.i64.wrap (a+(1:Int)))))) else (some (Sum.inl (c,(IntKind.i64.wrap (a+(1:Int)))))))
noncomputable def eY (e g:(List bA)) (f:Int) (s:(Bool×Int)):Option ((Bool×Int) ⊕ ((Int) ⊕ (Bool))) :=
 match s with | (b,a)=>(bif (decide (a<((e).length:Int))) then ((da g f).bind fun c=>((da e a).bind fun d=>(bif ((c.ID.Session==d.ID.Session)&&(c.ID.Seq==d.ID.Seq)) then (bif (c.E==d.E) then (bif (c.Epoch==d.Epoch) then (bif (c.Index==d.Index) then (bif (c.Shards==d.Shards) then (bif (((c.Parts).length:Int)==((d.Parts).length:Int)) then (((br (ei c d) (true,(0:Int)))).bind (kM b a)) else (some (Sum.inl (b,(IntKind.i64.wrap (a+(1:Int))))))) else (some (Sum.inl (b,(IntKind.i64.wrap (a+(1:Int))))))) else (some (Sum.inl (b,(IntKind.i64.wrap (a+(1:Int))))))) else (some (Sum.inl (b,(IntKind.i64.wrap (a+(1:Int))))))) else (some (Sum.inl (b,(IntKind.i64.wrap (a+(1:Int))))))) else (some (Sum.inl (b,(IntKind.i64.wrap (a+(1:Int))))))))) else (bt (bif (!b) then none else (some (Sum.inl (IntKind.i64.wrap (f+(1:Int))))))))
noncomputable def fT (a c:(List bA)) (b:(Int)):Option ((Int) ⊕ (Bool)) :=
 (bif (decide (b<((a).length:Int))) then (br (eY c a b) (false,(0:Int))) else (bt (some true)))
noncomputable def iF (a b:(List bA)):Option (Bool) :=
 (bif (((a).length:Int) !=((b).length:Int)) then none else (br (fT a b) (0:Int)))
noncomputable def kP (a:(Option bZ)):Option (Int) :=
 (match a with | none=>none | some b=>(some ((b.l).length:Int)))
noncomputable def gK (d:(Int)) (e:bZ) (s:((List bK)×Int)):Option (((List bK)×Int) ⊕ ((List bK))) :=
 match s with | (a,b)=>(bif (decide (b<d)) then ((da e.l b).bind fun c=>(gd (room a ([c.ID])) (some (Sum.inl ((a++([c.ID])),(IntKind.i64.wrap (b+(1:Int)))))))) else (bt (some a)))
noncomputable def ir (b:(Option bZ)):Option ((List bK)) :=
 (match b with | none=>none | some a=>((kP (some a)).bind fun c=>(br (gK c a) ([],(0:Int)))))
noncomputable def jd (a:(Option ae)):Option ((List bK)) :=
 (match a with | none=>none | some b=>((ir b.locks).bind fun c=>(some c)))
noncomputable def kQ (b:(Option ae)) (c:bK):Option (al×Bool) :=
 (match b with | none=>none | some d=>((gy d.locks c).bind fun a=>(some (a.1,a.2))))
noncomputable def ni (a:Int):Option (Nat) :=
 ((da ([(0:Nat),(4607182418800017408:Nat),(13830554455654793216:Nat),(4612811918334230528:Nat),(9094988921128908188:Nat),(18318360957983683996:Nat),(4602678819172646912:Nat),(4613937818241073152:Nat)]) (Int.tmod a (8:Int))).bind fun b=>(some b))
noncomputable def lG (a:(Option ae)) (b:Nat):Option (cp) :=
 (match a with | none=>none | some c=>((dW c.store b (18446744073709551615:Int)).bind fun d=>(some d)))
noncomputable def fq (c:(Option ae)) (a:Int):Option (Int) :=
 (match c with | none=>none | some b=>(bif (decide (a≥b.epoch)) then (some (2:Int)) else (bif (decide ((IntKind.u64.wrap ((IntKind.u64.wrap (a+(1:Int)))+(8:Int)))<b.epoch)) then (some (9:Int)) else (some (0:Int)))))
noncomputable def lL (d:(Option ae)) (e:Nat) (a:Int):Option (cp×Int) :=
 (match d with | none=>none | some b=>((fq (some b) a).bind fun c=>(bif (c !=(0:Int)) then (some (({Has:=false,Val:=[]}:cp),c)) else ((dW b.store e a).bind fun f=>(some (f,(0:Int)))))))
noncomputable def im (d:ae) (e:Int) (s:(Int×(List cW))):Option ((Int×(List cW)) ⊕ ((List cW))) :=
 match s with | (a,b)=>(bif (decide (a<((d.out).length:Int))) then ((da d.out a).bind fun c=>(bif (c.To==e) then (gd (room b ([c])) (some (Sum.inl ((IntKind.i64.wrap (a+(1:Int))),(b++([c])))))) else (some (Sum.inl ((IntKind.i64.wrap (a+(1:Int))),b))))) else (bt (some b)))
noncomputable def lJ (a:(Option ae)) (b:Int):Option ((List cW)) :=
 (match a with | none=>none | some c=>(br (im c b) ((0:Int),[])))
noncomputable def ij (d:ai) (e:Int) (s:((List cW)×Int)):Option (((List cW)×Int) ⊕ ((List cW))) :=
 match s with | (a,b)=>(bif (decide (b<((d.Out).length:Int))) then ((da d.Out b).bind fun c=>(bif (c.To==e) then (gd (room a ([c])) (some (Sum.inl ((a++([c])),(IntKind.i64.wrap (b+(1:Int))))))) else (some (Sum.inl (a,(IntKind.i64.wrap (b+(1:Int)))))))) else (bt (some a)))
noncomputable def nK (a:ai) (b:Int):Option ((List cW)) :=
 (br (ij a b) ([],(0:Int)))
noncomputable def kC (a:Int) (b:(Bool)):Option ((Int) ⊕ (Bool)) :=
 (bif b then none else (some (Sum.inl (IntKind.i64.wrap (a+(1:Int))))))
noncomputable def jh (d e:(List cW)) (c:(Int)):Option ((Int) ⊕ (Bool)) :=
 (bif (decide (c<((d).length:Int))) then ((((da d c).bind fun a=>((da e c).bind fun b=>(bif (a.To !=b.To) then none else (bif (a.N !=b.N) then none else (bif (a.Rule !=b.Rule) then none else (bif (a.Epoch !=b.Epoch) then none else ((fI ([a.W]) ([b.W])).bind fun f=>(some (!f)))))))))).bind (kC c)) else (bt (some true)))
noncomputable def kX (a b:(List cW)):Option (Bool) :=
 (bif (((a).length:Int) !=((b).length:Int)) then none else (br (jh a b) (0:Int)))
noncomputable def kY (a:(Option ae)) (b:Int):Option (Int) :=
 (match a with | none=>none | some c=>((en c.last b).bind fun d=>(some d)))
noncomputable def fZ (e:(Option ck)) (f b:Int):Option (bp×Int) :=
 (match e with | none=>none | some c=>((eP (some c) f).bind fun d=>(bif (!d.2) then (some (bI,(2:Int))) else ((da c.l d.1).bind fun a=>(bif (decide (a.seq<b)) then (some (bI,(2:Int))) else (bif (decide (a.seq>b)) then (some (bI,(10:Int))) else (some (a.r,(0:Int)))))))))
noncomputable def jD (c:(Option ae)) (a:bK):Option (bp×Int) :=
 (match c with | none=>none | some d=>((fZ d.last a.Session a.Seq).bind fun b=>(some (b.1,b.2))))
noncomputable def gf (d:cB) (e c:Int) (b:(Int)):Option ((Int) ⊕ (dr×Bool)) :=
 (bif (decide (b≥(0:Int))) then ((da d.l b).bind fun a=>(bif (a.r.ID==e) then (bif (decide (a.from_≤c)) then (bif (a.to_==(0:Int)) then (bt (some (a.r,true))) else (bif (decide (a.to_>c)) then (bt (some (a.r,true))) else (some (Sum.inl (IntKind.i64.wrap (b - (1:Int))))))) else (some (Sum.inl (IntKind.i64.wrap (b - (1:Int)))))) else (some (Sum.inl (IntKind.i64.wrap (b - (1:Int))))))) else (bt (some (eB,false))))
noncomputable def lU (b:(Option cB)) (c d:Int):Option (dr×Bool) :=
 (match b with | none=>none | some a=>(br (gf a c d) (IntKind.i64.wrap (((a.l).length:Int) - (1:Int)))))
noncomputable def gO (b:ae) (c d:Int) (e:Unit):Option (dr×Int) :=
 ((lU b.book c d).bind fun a=>(bif (!a.2) then (some (eB,(12:Int))) else (some (a.1,(0:Int)))))
noncomputable def kO (d:(Option ae)) (e b:Int):Option (dr×Int) :=
 (match d with | none=>none | some c=>(iJ ((fq (some c) b).bind fun a=>(bif (a !=(0:Int)) then (bif (a !=(9:Int)) then (bt (some (eB,a))) else (some (Sum.inl ()))) else (some (Sum.inl ())))) (gO c e b)))
noncomputable def lQ (k:(List cD)) (m l:Int) (s:(Int×Int×Int×Nat×Nat×Int×Int×Int×Bool)):Option ((Int×Int×Int×Nat×Nat×Int×Int×Int×Bool) ⊕ (Int×Int×Int×Nat×Nat×Int×Int×Bool)) :=
 match s with | (c,d,e,f,g,h,i,b,j)=>(bif (decide (b<((k).length:Int))) then ((da k b).bind fun a=>(bif (a.R.ID==m) then (bif (decide (a.From≤l)) then (bif (a.To==(0:Int)) then (some (Sum.inl (a.R.ID,a.R.From,a.R.To,a.R.Lo,a.R.Hi,a.R.Authority,a.R.Quota,(IntKind.i64.wrap (b+(1:Int))),true))) else (bif (decide (l<a.To)) then (some (Sum.inl (a.R.ID,a.R.From,a.R.To,a.R.Lo,a.R.Hi,a.R.Authority,a.R.Quota,(IntKind.i64.wrap (b+(1:Int))),true))) else (some (Sum.inl (c,d,e,f,g,h,i,(IntKind.i64.wrap (b+(1:Int))),j))))) else (some (Sum.inl (c,d,e,f,g,h,i,(IntKind.i64.wrap (b+(1:Int))),j)))) else (some (Sum.inl (c,d,e,f,g,h,i,(IntKind.i64.wrap (b+(1:Int))),j))))) else (bt (some (c,d,e,f,g,h,i,j))))
noncomputable def rF (s:(Int×Int×Int×Nat×Nat×Int×Int×Bool)):Option (dr×Bool) :=
 match s with | (a,b,c,d,e,f,g,h)=>(some (({ID:=a,From:=b,To:=c,Lo:=d,Hi:=e,Authority:=f,Quota:=g}:dr),h))
noncomputable def rY (a:(List cD)) (b c:Int):Option (dr×Bool) :=
 (((br (lQ a b c) ((0:Int),(0:Int),(0:Int),(0:Nat),(0:Nat),(0:Int),(0:Int),(0:Int),false))).bind (rF))
noncomputable def lH (a b:dr):Option (Bool) :=
 (bif (a.ID==b.ID) then (bif (a.From==b.From) then (bif (a.To==b.To) then ((eG a.Lo b.Lo).bind fun c=>(bif c then ((eG a.Hi b.Hi).bind fun d=>(bif d then (bif (a.Authority==b.Authority) then (some (a.Quota==b.Quota)) else none) else none)) else none)) else none) else none) else none)
noncomputable def ov (a:(al×Bool)) (b:Int) (s:(Int×Int×Int×(List Nat)×(List (Nat×Nat))×(List Nat)×(List Int)×Bool)):Option ((Int) ⊕ (Unit ⊕ (Bool))) :=
 match s with | (c,d,e,f,g,h,i,j)=>(bif (!a.2) then none else (bif (!j) then none else ((ja a.1 ({ID:=({Session:=c,Seq:=d}:bK),Epoch:=e,Gets:=f,Scans:=g,Puts:=h,Data:=i}:al)).bind fun k=>(bif (!k) then none else (some (Sum.inl (IntKind.i64.wrap (b+(1:Int)))))))))
noncomputable def jQ (c:((List bK))) (e:(Option ae)) (f:ai) (b:(Int)):Option ((Int) ⊕ (Unit ⊕ (Bool))) :=
 (bif (decide (b<((c).length:Int))) then ((da c b).bind fun d=>((kQ e d).bind fun g=>((((kI f.H d).bind fun a=>(some (a.1.ID.Session,a.1.ID.Seq,a.1.Epoch,a.1.Gets,a.1.Scans,a.1.Puts,a.1.Data,a.2)))).bind (ov g b)))) else (bt (some (Sum.inl ()))))
noncomputable def mP (a:Int) (b:(Bool)):Option ((Int) ⊕ ((Int) ⊕ (Unit ⊕ (Bool)))) :=
 (bif b then none else (some (Sum.inl (IntKind.u64.wrap (a+(1:Int))))))
noncomputable def mN (a:(cp×Int)) (c:Int) (d:ai) (b:Int) (e:(Int)):Option ((Int) ⊕ ((Int) ⊕ (Unit ⊕ (Bool)))) :=
 (((bif (a.2 !=e) then none else (bif (a.2==(0:Int)) then ((ni c).bind fun f=>((iU d.V f b).bind fun g=>((fN ([a.1]) ([g])).bind fun h=>(some (!h))))) else (some false)))).bind (mP b))
noncomputable def jS (b:Int) (d:(Option ae)) (c:ai) (a:(Int)):Option ((Int) ⊕ ((Int) ⊕ (Unit ⊕ (Bool)))) :=
 (bif (decide (a<(6:Int))) then ((ni b).bind fun e=>((lL d e a).bind fun f=>(((bif (decide (a≥c.Epoch)) then (some (2:Int)) else (bif (decide ((IntKind.u64.wrap (a+(9:Int)))<c.Epoch)) then (some (9:Int)) else (some (0:Int))))).bind (mN f b c a)))) else (bt (some (Sum.inl (IntKind.i64.wrap (b+(1:Int)))))))
noncomputable def ot (a:Int) (b:(Option ae)) (c:ai) (d:(Bool)):Option ((Int) ⊕ (Unit ⊕ (Bool))) :=
 (bif d then none else (br (jS a b c) (0:Int)))
noncomputable def ln (b:(Option ae)) (c:ai) (a:(Int)):Option ((Int) ⊕ (Unit ⊕ (Bool))) :=
 (bif (decide (a<(8:Int))) then ((((ni a).bind fun d=>((lG b d).bind fun e=>((ni a).bind fun f=>((iU c.V f (18446744073709551615:Int)).bind fun g=>((fN ([e]) ([g])).bind fun h=>(some (!h)))))))).bind (ot a b c)) else (bt (some (Sum.inl ()))))
noncomputable def ke (a:(dr×Int)) (c:(dr×Bool)) (b:Int) (d:(Int)):Option ((Int) ⊕ ((Int) ⊕ (Bool))) :=
 (bif (a.2 !=d) then none else (bif (a.2==(0:Int)) then ((lH a.1 c.1).bind fun e=>(bif (!e) then none else (some (Sum.inl (IntKind.u64.wrap (b+(1:Int))))))) else (some (Sum.inl (IntKind.u64.wrap (b+(1:Int)))))))
noncomputable def kh (a:Int) (b:ai) (c:(dr×Int)) (d:(dr×Bool)) (e:(Int)):Option ((Int) ⊕ ((Int) ⊕ (Bool))) :=
 (((bif (decide (a≥b.Epoch)) then (some (2:Int)) else (some e))).bind (ke c d a))
noncomputable def iX (e:(Option ae)) (b:Int) (c:ai) (a:(Int)):Option ((Int) ⊕ ((Int) ⊕ (Bool))) :=
 (bif (decide (a<(4:Int))) then ((kO e (IntKind.u64.wrap b) a).bind fun f=>((rY c.B (IntKind.u64.wrap b) a).bind fun d=>(((bif (!d.2) then (some (12:Int)) else (some (0:Int)))).bind (kh a c f d)))) else (bt (some (Sum.inl (IntKind.i64.wrap (b+(1:Int)))))))
noncomputable def nG (a:(Option ae)) (b:Int) (c:ai) (d:Unit):Option ((Int) ⊕ (Bool)) :=
 (br (iX a b c) (0:Int))
noncomputable def li (b:(Option ae)) (c:ai) (a:(Int)):Option ((Int) ⊕ (Bool)) :=
 (bif (decide (a<(4:Int))) then ((lJ b a).bind fun f=>((nK c a).bind fun g=>((kX f g).bind fun h=>(bif (!h) then none else ((kY b (IntKind.u64.wrap a)).bind fun i=>((iC c.A (IntKind.u64.wrap a)).bind fun j=>(bif (i !=j.Seq) then none else ((iC c.A (IntKind.u64.wrap a)).bind fun d=>((jD b ({Session:=(IntKind.u64.wrap a),Seq:=d.Seq}:bK)).bind fun e=>(iJ (bif (decide (d.Seq>(0:Int))) then (bif (e.2 !=(0:Int)) then none else ((eV e.1 d.R).bind fun k=>(bif (!k) then none else (some (Sum.inl ()))))) else (some (Sum.inl ()))) (nG b a c))))))))))) else (bt (some true)))
noncomputable def qm (a:(Option ae)) (b:ai) (c:Unit):Option (Bool) :=
 (br (li a b) (0:Int))
noncomputable def mJ (a:(Option ae)) (b:ai) (c:Unit):Option (Bool) :=
 (iJ (br (ln a b) (0:Int)) (qm a b))
noncomputable def pL (a:(Option ae)) (b:ai):Option (Bool) :=
 ((iQ a).bind fun d=>(bif (d !=b.Epoch) then none else ((jc a).bind fun e=>((iA b).bind fun f=>(bif (!(e==f)) then none else ((kS a).bind fun g=>((iF g b.Open).bind fun h=>(bif (!h) then none else ((jd a).bind fun c=>(bif (((c).length:Int) !=((b.H).length:Int)) then none else (iJ (br (jQ c a b) (0:Int)) (mJ a b))))))))))))
noncomputable def ji (s:(ak×ae×ai×Int)):Option ((ak×ae×ai×Int) ⊕ (Bool)) :=
 match s with | (f,g,h,a)=>(bif (decide (a<(30:Int))) then ((eU f).bind fun b=>((cn (some g) (IntKind.u64.wrap (IntKind.i64.wrap (a+(1:Int)))) b.1).bind fun d=>(match d.2 with | none=>none | some e=>((cr h (IntKind.u64.wrap (IntKind.i64.wrap (a+(1:Int)))) b.1).bind fun c=>((ka d.1 c.1).bind fun i=>(bif (!i) then none else ((pL (some e) c.2).bind fun j=>(bif (!j) then none else (some (Sum.inl (b.2,e,c.2,(IntKind.i64.wrap (a+(1:Int)))))))))))))) else (bt (some true)))
noncomputable def mR (a:(List Int)) (b:Int):Option (Bool) :=
 (lF.bind fun c=>(bif (!c) then (lF.bind fun d=>(some d)) else (bif (decide (((a).length:Int)>(600:Int))) then (lF.bind fun e=>(some e)) else ((qC (Int.tmod (IntKind.i64.wrap b) (6:Int))).bind fun f=>((sB (Int.tmod (IntKind.i64.wrap b) (6:Int))).bind fun g=>(br (ji) (({L:=a,I:=(0:Int)}:ak),f,g,(0:Int))))))))
noncomputable def EQ (a:(List Int)):Option (bX) :=
 (some ({p:=a,bad:=false}:bX))
end Go.Proofs.YtgnkkopjkgdieaaGreat
