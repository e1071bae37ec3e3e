/- A part of the proof. -/
import Derived.Test.YtgnkkopjkgdieaaGreatLaneBytesGw
import Derived.Test.YtgnkkopjkgdieaaGreatLaneBytesP2
set_option linter.unusedVariables false
set_option linter.unusedSimpArgs false
set_option maxRecDepth 100000
namespace Go.Proofs.YtgnkkopjkgdieaaGreat
open Go Go.V
theorem De {α:Type} (l:List α):l.filter (fun _=>true)=l:=List.filter_eq_self.2 fun _ _=>rfl
noncomputable def wL (rows:List bW) (h:aw):bB:={E:=0,ae:=0,Index:=0,dT:=h.dO.map fun x=>(fx (some {rows:=rows}) x 18446744073709551615).getD {Has:=false,Val:=[]},aX:=h.aX.map fun x=>(ib (some {rows:=rows}) x.1 x.2 18446744073709551615 64).getD []}
noncomputable def qH (V:List aP) (h:aw):bB:={E:=0,ae:=0,Index:=0,dT:=h.dO.map fun x=>(lc V x 18446744073709551615).getD {Has:=false,Val:=[]},aX:=h.aX.map fun x=>(oV V x.1 x.2 18446744073709551615 64).getD []}
structure asks (h:aw):Prop where
 g : ∀ x∈h.dO,isF x
 s : ∀ x∈h.aX,isF x.1∧isF x.2
 lg : h.dO.length≤1000
 ls : h.aX.length≤1000
theorem Mc {s:ai} {rows:List bW} {V:List aP} {n:Nat} (hs:s.store=some {rows:=rows}) (hi:Inv n rows V) (hn:n≤10000) {h:aw} (g:asks h):lN (some s) h=some (wL rows h):=by
 have l1:=g.lg
 have l2:=g.ls
 have e1:=nZ (body:=jx h s) h.dO (fun _=>true) (fun x=>(fx (some {rows:=rows}) x 18446744073709551615).getD {Has:=false,Val:=[]}) (fun out=>out) (fun i hi' out ho=>by
  obtain ⟨o,_,h2,_⟩:=uU hi hn (g.g _ (List.getElem_mem hi')) 18446744073709551615
  simp only [jx,gh hi',cond_true,bD hi',Option.bind_some,hs,h2,Option.getD_some]
  rw [dl (gC omA),cm (show i≤4294967295 by omega)]) (fun out _=>by simp [jx,bG])
 have e2:∀ G,bA (il h s G) ([],(0:Int))=some {E:=0,ae:=0,Index:=0,dT:=G,aX:=(h.aX.filter (fun _=>true)).map fun x=>(ib (some {rows:=rows}) x.1 x.2 18446744073709551615 64).getD []}:=fun G=>by
  refine nZ (body:=il h s G) h.aX (fun _=>true) (fun x=>(ib (some {rows:=rows}) x.1 x.2 18446744073709551615 64).getD []) (fun out=>{E:=0,ae:=0,Index:=0,dT:=G,aX:=out}) (fun i hi' out ho=>?_) (fun out _=>by simp [il,bG])
  have hf:=g.s _ (List.getElem_mem hi')
  obtain ⟨P,Q,h2,_,_⟩:=zn hi hn hf.1 hf.2 18446744073709551615 64
  simp only [il,gh hi',cond_true,bD hi',Option.bind_some,hs,h2,Option.getD_some]
  rw [dl (gC omA),cm (show i≤4294967295 by omega)]
 unfold lN
 dsimp only
 rw [e1,Option.bind_some,nz,e2,De,De]
 rfl
theorem Mi {m:aq} {rows:List bW} {n:Nat} (hi:Inv n rows m.V) (hn:n≤10000) {h:aw} (g:asks h):kZ m h=some (qH m.V h):=by
 have l1:=g.lg
 have l2:=g.ls
 have e1:=nZ (body:=jd h m) h.dO (fun _=>true) (fun x=>(lc m.V x 18446744073709551615).getD {Has:=false,Val:=[]}) (fun out=>out) (fun i hi' out ho=>by
  obtain ⟨o,_,_,h2⟩:=uU hi hn (g.g _ (List.getElem_mem hi')) 18446744073709551615
  simp only [jd,gh hi',cond_true,bD hi',Option.bind_some,h2,Option.getD_some]
  rw [dl (gC omA),cm (show i≤4294967295 by omega)]) (fun out _=>by simp [jd,bG])
 have e2:∀ G,bA (gT h m G) ([],(0:Int))=some {E:=0,ae:=0,Index:=0,dT:=G,aX:=(h.aX.filter (fun _=>true)).map fun x=>(oV m.V x.1 x.2 18446744073709551615 64).getD []}:=fun G=>by
  refine nZ (body:=gT h m G) h.aX (fun _=>true) (fun x=>(oV m.V x.1 x.2 18446744073709551615 64).getD []) (fun out=>{E:=0,ae:=0,Index:=0,dT:=G,aX:=out}) (fun i hi' out ho=>?_) (fun out _=>by simp [gT,bG])
  have hf:=g.s _ (List.getElem_mem hi')
  obtain ⟨P,Q,_,h2,_⟩:=zn hi hn hf.1 hf.2 18446744073709551615 64
  simp only [gT,gh hi',cond_true,bD hi',Option.bind_some,h2,Option.getD_some]
  rw [dl (gC omA),cm (show i≤4294967295 by omega)]
 unfold kZ
 rw [e1,Option.bind_some,mP,e2,De,De]
 rfl
theorem GM {rows:List bW} {V:List aP} {n:Nat} (hi:Inv n rows V) (hn:n≤10000) {h:aw} (g:asks h):gJ (wL rows h) (qH V h)=some true:=by
 have l1:=g.lg
 have l2:=g.ls
 have eg:(wL rows h).dT=(qH V h).dT:=by
  refine List.map_congr_left fun x hx=>?_
  obtain ⟨o,_,h1,h2⟩:=uU hi hn (g.g _ hx) 18446744073709551615
  rw [h1,h2]
 have s1:(wL rows h).aX.length=h.aX.length:=List.length_map _
 have s2:(qH V h).aX.length=h.aX.length:=List.length_map _
 have e0:∀ x:Int,(x !=x)=false:=fun x=>by simp
 have sg:=Cu (qH V h).dT (by show (h.dO.map _).length≤_; rw [List.length_map]; omega)
 unfold gJ
 rw [show (wL rows h).E=0 from rfl,show (qH V h).E=0 from rfl,show (wL rows h).ae=0 from rfl,show (qH V h).ae=0 from rfl,show (wL rows h).Index=0 from rfl,show (qH V h).Index=0 from rfl,eg,s1,s2,sg]
 simp only [e0,cond_false,Option.bind_some,Bool.not_true]
 refine dW (fun i=>(i:Int)) h.aX.length true (fun i hi'=>?_) ?_
 ·have hf:=g.s _ (List.getElem_mem hi')
  obtain ⟨P,Q,h1,h2,h3⟩:=zn hi hn hf.1 hf.2 18446744073709551615 64
  have i1:i<(wL rows h).aX.length:=by omega
  have i2:i<(qH V h).aX.length:=by omega
  have p1:(wL rows h).aX[i]=P:=(List.getElem?_eq_some_iff.1 (show (wL rows h).aX[i]?=some P by show (h.aX.map _)[i]?=_; rw [List.getElem?_map,List.getElem?_eq_getElem hi',Option.map_some,h1]; rfl)).2
  have p2:(qH V h).aX[i]=Q:=(List.getElem?_eq_some_iff.1 (show (qH V h).aX[i]?=some Q by show (h.aX.map _)[i]?=_; rw [List.getElem?_map,List.getElem?_eq_getElem hi',Option.map_some,h2]; rfl)).2
  simp only [ir,gh i1,cond_true,bD i1,bD i2,p1,p2,Option.bind_some,h3,Bool.not_true,cond_false,cm (show i≤4294967295 by omega)]
 ·rw [← s1]
  simp [ir,bG]
noncomputable def uS (E:Int) (l:List aw) (x:aw):Int×List aw :=
 match jK kid (kid x) l with
 | some y=>bif tr (nf y=nf x) then (0,l) else bif decide (x.ID.ab<9223372036854775808) then (8,l) else bif decide (x.ae≤y.ae) then (8,l) else bif l.any (bars x) then (8,l) else (0,mZ kid l x)
 | none=>bif x.ae !=E then (9,l) else bif l.any (bars x) then (8,l) else (0,mZ kid l x)
noncomputable def yb (E:Int) (H:List aw) (x:aw):Int×List aw :=
 match H.find? (fun z=>kid z==kid x) with
 | some y=>bif tr (nf y=nf x) then (0,H) else bif decide (x.ID.ab<9223372036854775808) then (8,H) else bif decide (x.ae≤y.ae) then (8,H) else bif H.any (bars x) then (8,H) else (0,(H.filter fun y=>kid y !=kid x)++[x])
 | none=>bif x.ae !=E then (9,H) else bif H.any (bars x) then (8,H) else (0,(H.filter fun y=>kid y !=kid x)++[x])
def xY (s:ai) (l:List aw):ai:={s with ft:=some {l:=l}}
def Ev (m:aq) (H:List aw):aq:={m with H:=H}
theorem II {s:ai} {l:List aw} (hs:s.ft=some {l:=l}):xY s l=s:=by
 obtain ⟨w,e,st,lk,la,bk,op,o,u⟩:=s
 dsimp only at hs
 subst hs; rfl
theorem LK {l:List aw} (h:uK l) (hn:l.length≤999) {x:aw} (hx:iM x):jv (some {l:=l}) x=some (bif l.any (bars x) then (8,some {l:=l}) else (0,some {l:=mZ kid l x})):=by
 rw [KD h hn hx]; cases l.any (bars x) <;> rfl
theorem Ki {m:List aw} (hn:m.length≤999) (hg:∀ x∈m,iM x) {x:aw} (hx:iM x):rZ m x=some (bif m.any (bars x) then (m,false) else ((m.filter fun y=>kid y !=kid x)++[x],true)):=by
 rw [Iy hn hg hx]; cases m.any (bars x) <;> rfl
theorem Mn {s:ai} {l:List aw} (hs:s.ft=some {l:=l}) (h:uK l) (hn:l.length≤900) {x:aw} (hx:iM x):lO (some s) x=some ((uS s.cI l x).1,some (xY s (uS s.cI l x).2)):=by
 have hg:=get_eq h hx.id
 rw [show idk x.ID=kid x from rfl] at hg
 have ht:=LK h omA hx
 have hj:fF s x ()=some (bif l.any (bars x) then ((8:Int),some (xY s l)) else (0,some (xY s (mZ kid l x)))):=by
  unfold fF
  rw [hs,ht,Option.bind_some]
  cases l.any (bars x) <;> rfl
 have hw:=II hs
 unfold lO
 dsimp only
 rw [hs,hg,Option.bind_some]
 unfold uS
 cases e:jK kid (kid x) l with
 | some y =>
  have hy:=h.2.2 y ((nk h.1).1 e).1
  have hsm:=JN hy hx
  dsimp only
  rw [Option.bind_some]
  show hQ ((rW y x).bind fun t415=>(bif t415 then (bG (some ((0:Int),(some s)))) else (bif (decide (x.ID.ab<(9223372036854775808:Int))) then (bG (some ((8:Int),(some s)))) else (bif (decide (x.ae≤y.ae)) then (bG (some ((8:Int),(some s)))) else (some (Sum.inl ())))))) (fF s x)=_
  rw [hsm,Option.bind_some]
  cases tr (nf y=nf x) with
  | true=>show some ((0:Int),some s)=some (0,some (xY s l)); rw [hw]
  | false =>
  cases decide (x.ID.ab<9223372036854775808) with
  | true=>show some ((8:Int),some s)=some (8,some (xY s l)); rw [hw]
  | false =>
  cases decide (x.ae≤y.ae) with
  | true=>show some ((8:Int),some s)=some (8,some (xY s l)); rw [hw]
  | false =>
   show fF s x ()=_
   rw [hj]
   cases l.any (bars x) <;> rfl
 | none =>
  dsimp only
  rw [Option.bind_some]
  show hQ (bif x.ae !=s.cI then bG (some ((9:Int),some s)) else some (Sum.inl ())) (fF s x)=_
  cases x.ae !=s.cI with
  | true=>show some ((9:Int),some s)=some (9,some (xY s l)); rw [hw]
  | false =>
   show fF s x ()=_
   rw [hj]
   cases l.any (bars x) <;> rfl
theorem Mm {m:aq} (hn:m.H.length≤900) (hg:∀ y∈m.H,iM y) {x:aw} (hx:iM x):ld m x=some ((yb m.ae m.H x).1,Ev m (yb m.ae m.H x).2):=by
 have hh:=CF (m:=m.H) omA hg hx.id
 rw [show idk x.ID=kid x from rfl] at hh
 have ht:=Ki (m:=m.H) omA hg hx
 have hj:fp m x ()=some (bif m.H.any (bars x) then ((8:Int),Ev m m.H) else (0,Ev m ((m.H.filter fun y=>kid y !=kid x)++[x]))):=by
  unfold fp
  rw [ht,Option.bind_some]
  cases m.H.any (bars x) <;> rfl
 unfold ld
 rw [hh,Option.bind_some]
 unfold yb
 cases e:m.H.find? (fun z=>kid z==kid x) with
 | some y =>
  have hy:=hg y (List.mem_of_find?_eq_some e)
  have hsm:=Cc hy hx
  dsimp only
  rw [Option.bind_some]
  show hQ (((lD y x).bind fun t676=>(bif t676 then (bG (some ((0:Int),m))) else (some (Sum.inl ()))))) (fun u=>hQ (bif (decide (x.ID.ab<(9223372036854775808:Int))) then (bG (some ((8:Int),m))) else (bif (decide (x.ae≤y.ae)) then (bG (some ((8:Int),m))) else (some (Sum.inl ())))) (fun u=>fp m x u))=_
  rw [hsm,Option.bind_some]
  cases tr (nf y=nf x) with
  | true=>rfl
  | false =>
  cases decide (x.ID.ab<9223372036854775808) with
  | true=>rfl
  | false =>
  cases decide (x.ae≤y.ae) with
  | true=>rfl
  | false =>
   show fp m x ()=_
   rw [hj]
   cases m.H.any (bars x) <;> rfl
 | none =>
  dsimp only
  rw [Option.bind_some]
  show hQ (bif x.ae !=m.ae then bG (some ((9:Int),m)) else some (Sum.inl ())) (fun u=>fp m x u)=_
  cases x.ae !=m.ae with
  | true=>rfl
  | false =>
   show fp m x ()=_
   rw [hj]
   cases m.H.any (bars x) <;> rfl
theorem GZ {l:List aw} (hr:iF kid l) (E:Int) (x:aw):∀ y∈(uS E l x).2,y∈l∨y=x:=by
 have h:(uS E l x).2=l∨(uS E l x).2=mZ kid l x:=by
  unfold uS
  cases jK kid (kid x) l with
  | some y =>
   dsimp only
   cases tr (nf y=nf x) <;> cases decide (x.ID.ab<9223372036854775808) <;> cases decide (x.ae≤y.ae) <;> cases l.any (bars x) <;> first | exact .inl rfl | exact .inr rfl
  | none =>
   dsimp only
   cases x.ae !=E <;> cases l.any (bars x) <;> first | exact .inl rfl | exact .inr rfl
 intro y hy
 rcases h with h | h <;> rw [h] at hy
 ·exact .inl hy
 ·exact ((lx hr x y).1 hy).symm.imp (·.1) id
theorem Ii {l H:List aw} (h:uK l) (hp:l.Perm H) (E:Int) (hn:l.length≤900) {x:aw} (hx:iM x):(uS E l x).1=(yb E H x).1∧(uS E l x).2.Perm (yb E H x).2∧uK (uS E l x).2∧(uS E l x).2.length≤l.length+1:=by
 have hput:=Kb h hp x
 have tput:=IA h hx omA
 have lput:=wS h.1 x
 unfold uS yb
 rw [zK h.1 hp,AL hp (bars x)]
 cases jK kid (kid x) l with
 | some y =>
  dsimp only
  cases tr (nf y=nf x) with
  | true=>exact ⟨rfl,hp,h,Nat.le_succ _⟩
  | false =>
  cases decide (x.ID.ab<9223372036854775808) with
  | true=>exact ⟨rfl,hp,h,Nat.le_succ _⟩
  | false =>
  cases decide (x.ae≤y.ae) with
  | true=>exact ⟨rfl,hp,h,Nat.le_succ _⟩
  | false =>
  cases H.any (bars x) with
  | true=>exact ⟨rfl,hp,h,Nat.le_succ _⟩
  | false=>exact ⟨rfl,hput,tput,lput⟩
 | none =>
  dsimp only
  cases x.ae !=E with
  | true=>exact ⟨rfl,hp,h,Nat.le_succ _⟩
  | false =>
  cases H.any (bars x) with
  | true=>exact ⟨rfl,hp,h,Nat.le_succ _⟩
  | false=>exact ⟨rfl,hput,tput,lput⟩
def DQ (a b:bU):Prop:=a.Kind=b.Kind∧a.ID=b.ID∧gJ a.R b.R=some true
theorem jB {a:bU} (h:okR a.R):DQ a a:=⟨rfl,rfl,yl h⟩
theorem Bh (e p i:Int):okR {E:=e,ae:=p,Index:=i,dT:=[],aX:=[]}:=⟨by show (0:Nat)≤_; omega,by show (0:Nat)≤_; omega,fun l hl=>(by cases hl)⟩
theorem Kg {s:ai} {c:aG} (hk:c.Kind=2) (n:Int):df (some s) n c=(lv (some s) c).bind fun t=>match t.2 with | none=>none | some y=>some (t.1,some y):=by
 unfold df
 dsimp only
 rw [hk]; rfl
theorem Ma {s:ai} {c:aG} (hk:c.Kind=3) (n:Int):df (some s) n c=(ke (some s) c).bind fun t=>match t.2 with | none=>none | some y=>some (t.1,some y):=by
 unfold df
 dsimp only
 rw [hk]; rfl
theorem Im {m:aq} {c:aG} (hk:c.Kind=2) (n:Int):dq m n c=(ld m c.br).bind fun t921=>(((bif (t921.1==(0:Int)) then ((kZ t921.2 c.br).bind fun t927=>(some ({Kind:=(2:Int),ID:=c.br.ID,R:=t927}:bU))) else (some ({Kind:=(2:Int),ID:=c.br.ID,R:=ct}:bU)))).bind (mg t921)):=by
 unfold dq
 rw [hk]; rfl
theorem KF {m:aq} {c:aG} (hk:c.Kind=3) (n:Int):dq m n c=(((nI m.H c.ID).bind fun t980=>(some t980.2))).bind (jM m c):=by
 unfold dq
 rw [hk]; rfl
theorem HE {s:ai} {m:aq} {rows:List bW} {l:List aw} {k:Nat} (hs:s.store=some {rows:=rows}) (hl:s.ft=some {l:=l}) (he:s.cI=m.ae) (hi:Inv k rows m.V) (hk:k≤10000) (h:uK l) (hn:l.length≤900) (hp:l.Perm m.H) {c:aG} (hc:c.Kind=2) (hx:iM c.br) (n:Int) :
  ∃ e e' l' H',df (some s) n c=some (e,some (xY s l'))∧dq m n c=some (e',Ev m H')∧DQ e e'∧uK l'∧l'.length≤l.length+1∧l'.Perm H'∧∀ y∈l',y∈l∨y=c.br:=by
 have r5:=GZ h.1 m.ae c.br
 have hg:∀ y∈m.H,iM y:=fun y hy=>h.2.2 y (hp.mem_iff.2 hy)
 have hm:m.H.length=l.length:=hp.length_eq.symm
 obtain ⟨r1,r2,r3,r4⟩:=Ii h hp m.ae hn hx
 have q1:=Mn hl h hn hx
 have q2:=Mm (m:=m) omA hg hx
 rw [he,r1] at q1
 have gx:asks c.br:=by
  obtain ⟨_,_,_,g4,g5,g6,l1,l2,_⟩:=hx
  exact ⟨g4,g5,by omega,by omega⟩
 have t1:=Mc (s:=xY s (uS m.ae l c.br).2) (rows:=rows) hs hi hk gx
 have t2:=Mi (m:=Ev m (yb m.ae m.H c.br).2) (rows:=rows) hi hk gx
 have ts:=GM hi hk gx
 rw [Kg hc,Im hc]
 unfold lv
 rw [q1,q2]
 simp only [Option.bind_some]
 cases hz:(yb m.ae m.H c.br).1==(0:Int) with
 | true =>
  have hz0:=eq_of_beq hz
  rw [t1,t2]
  simp only [cond_true,Option.bind_some]
  refine ⟨_,_,_,_,rfl,rfl,⟨rfl,rfl,?_⟩,r3,r4,r2,r5⟩
  show gJ (wL rows c.br) {E:=(yb m.ae m.H c.br).1,ae:=(qH m.V c.br).ae,Index:=(qH m.V c.br).Index,dT:=(qH m.V c.br).dT,aX:=(qH m.V c.br).aX}=_
  rw [show ({E:=(yb m.ae m.H c.br).1,ae:=(qH m.V c.br).ae,Index:=(qH m.V c.br).Index,dT:=(qH m.V c.br).dT,aX:=(qH m.V c.br).aX}:bB)=qH m.V c.br by rw [hz0]; rfl]
  exact ts
 | false =>
  simp only [cond_false,Option.bind_some]
  exact ⟨_,_,_,_,rfl,rfl,⟨rfl,rfl,yl (Bh _ _ _)⟩,r3,r4,r2,r5⟩
def Ec (c:aG) (w:bK):aP:={w with ae:=c.ae,Index:=c.Index}
def DE (c:aG) (rows:List bW) (w:bK):List bW:=DG rows (aO w.At) (clr (ver (Ec c w)))
def Ey (c:aG) (V:List aP) (w:bK):List aP:=V.filter (fun y=>yp (ky (vv (Ec c w))) (vv y))++[clx (Ec c w)]
theorem DA {n:Nat} {c:aG} {V:List aP} {rows:List bW} (h:Inv n rows V):∀ (ws:List bK),(∀ w∈ws,xG (Ec c w))→n+ws.length≤10000→Inv (n+ws.length) (ws.foldl (DE c) rows) (ws.foldl (Ey c) V):=by
 intro ws
 induction ws generalizing n V rows with
 | nil=>intro _ _; exact h
 | cons w ws ih =>
  intro hg hn
  rw [List.length_cons] at hn
  have gx:=hg w siA
  obtain ⟨_,m',h2,h3⟩:=FU h omA gx
  have h4:=zN (fun y hy=>(h.xg y hy).1) gx.1 (by have:=h.AA; omega) (fun y hy=>(h.xg y hy).2.1) gx.2.1
  rw [h2] at h4
  have h5:=some_inj h4
  rw [h5] at h3
  have := ih (n:=n+1) (rows:=DE c rows w) (V:=Ey c V w) h3 (fun y hy=>hg y (by simp [hy])) omA
  rw [List.length_cons,List.foldl_cons,List.foldl_cons]
  rw [show n+(ws.length+1)=n+1+ws.length by omega]
  exact this
theorem wE {α β:Type} (f:β→α→β) (l:List α) {i:Nat} (hi:i<l.length) (b:β):(l.take (i+1)).foldl f b=f ((l.take i).foldl f b) l[i]:=by
 rw [List.take_succ_eq_append_getElem hi,List.foldl_append]; rfl
def yt (s:ai) (rows:List bW) (l:List aw):ai:={s with store:=some {rows:=rows},ft:=some {l:=l}}
def vz (m:aq) (V:List aP) (H:List aw):aq:={m with V:=V,H:=H}
theorem HQ {s:ai} {m:aq} {rows:List bW} {l:List aw} {k:Nat} (hs:s.store=some {rows:=rows}) (hl:s.ft=some {l:=l}) (hi:Inv k rows m.V) (h:uK l) (hp:l.Perm m.H) {c:aG} (hc:c.Kind=3) (hid:idG c.ID) (hw:∀ w∈c.cw,xG (Ec c w)) (hk:k+c.cw.length≤10000) (n:Int) :
  ∃ rows' V' l' H',df (some s) n c=some ({Kind:=3,ID:=c.ID,R:=ct},some (yt s rows' l'))∧dq m n c=some ({Kind:=3,ID:=c.ID,R:=ct},vz m V' H')∧Inv (k+c.cw.length) rows' V'∧uK l'∧l'.length≤l.length∧l'.Perm H'∧∀ y∈l',y∈l:=by
 have hsub:∀ y∈rU kid (idk c.ID) l,y∈l:=fun y hy=>by
  rw [← lW h.1] at hy
  exact (List.mem_filter.1 hy).1
 have hg:∀ y∈m.H,iM y:=fun y hy=>h.2.2 y (hp.mem_iff.2 hy)
 have hm:m.H.length=l.length:=hp.length_eq.symm
 have hn:=h.2.1
 have t':=IG h (idk c.ID)
 have p':(rU kid (idk c.ID) l).Perm (m.H.filter fun y=>kid y !=idk c.ID):=by rw [← lW h.1]; exact hp.filter _
 have l':=Bn h.1 (idk c.ID)
 obtain ⟨w,e3,e4⟩:∃ w,nI m.H c.ID=some w∧w.2=hit kid (idk c.ID) l:=⟨_,CF omA hg hid,by
  rw [zK h.1 hp,Io]
  cases jK kid (idk c.ID) l <;> rfl⟩
 have d1:=drop_eq h hid
 have d2:=DX (m:=m.H) omA hg hid
 rw [Ma hc,KF hc,e3]
 unfold ke
 dsimp only
 rw [hl,d1]
 simp only [Option.bind_some,e4,jM,d2]
 cases hh:hit kid (idk c.ID) l with
 | false =>
  have hr:bA (eI false c) (({m with H:=(m.H.filter fun x=>kid x !=idk c.ID)}:aq),(0:Int))=some (vz m m.V (m.H.filter fun x=>kid x !=idk c.ID)):=by
   rw [fJ]; rfl
  rw [hr]
  refine ⟨rows,m.V,_,_,?_,rfl,hi.up (Nat.le_add_right _ _),t',l',p',hsub⟩
  rw [hs]; rfl
 | true =>
  cases hE:c.E==(0:Int) with
  | false =>
   have hr:bA (eI true c) (({m with H:=(m.H.filter fun x=>kid x !=idk c.ID)}:aq),(0:Int))=some (vz m m.V (m.H.filter fun x=>kid x !=idk c.ID)):=by
    rw [fJ]; simp only [eI,hE]; rfl
   rw [hr]
   refine ⟨rows,m.V,_,_,?_,rfl,hi.up (Nat.le_add_right _ _),t',l',p',hsub⟩
   rw [hs]; rfl
  | true =>
   have hpart:∀ i,i≤c.cw.length→Inv (k+i) ((c.cw.take i).foldl (DE c) rows) ((c.cw.take i).foldl (Ey c) m.V):=fun i hi'=>by
    have := DA (c:=c) hi (c.cw.take i) (fun w hw'=>hw w (List.mem_of_mem_take hw')) lnA
    rw [List.length_take,Nat.min_eq_left hi'] at this
    exact this
   have h1:bA (gD c) (yt s rows (rU kid (idk c.ID) l),(0:Int))=some (yt s (c.cw.foldl (DE c) rows) (rU kid (idk c.ID) l)):=by
    have := dW (body:=gD c) (fun i=>(yt s ((c.cw.take i).foldl (DE c) rows) (rU kid (idk c.ID) l),(i:Int))) c.cw.length (yt s (c.cw.foldl (DE c) rows) (rU kid (idk c.ID) l)) (fun i hi'=>by
     obtain ⟨h2,_⟩:=FU (hpart i omA) omA (hw _ (List.getElem_mem hi'))
     have h2:jO (yt s ((c.cw.take i).foldl (DE c) rows) (rU kid (idk c.ID) l)).store c.cw[i].At {c with Del:=c.cw[i].Del,Val:=c.cw[i].Val}=_:=h2
     simp only [gD,gh hi',cond_true,bD hi',Option.bind_some,h2,cm (show i≤4294967295 by omega),wE _ _ hi']
     rfl) (by simp [gD,bG])
    simpa using this
   have h3:bA (eI true c) (vz m m.V (m.H.filter fun x=>kid x !=idk c.ID),(0:Int))=some (vz m (c.cw.foldl (Ey c) m.V) (m.H.filter fun x=>kid x !=idk c.ID)):=by
    have := dW (body:=eI true c) (fun i=>(vz m ((c.cw.take i).foldl (Ey c) m.V) (m.H.filter fun x=>kid x !=idk c.ID),(i:Int))) c.cw.length (vz m (c.cw.foldl (Ey c) m.V) (m.H.filter fun x=>kid x !=idk c.ID)) (fun i hi'=>by
     have hI:=hpart i omA
     have gx:=hw _ (List.getElem_mem hi')
     have h4:=zN (fun y hy=>(hI.xg y hy).1) gx.1 (by have:=hI.AA; omega) (fun y hy=>(hI.xg y hy).2.1) gx.2.1
     have h4:rX (vz m ((c.cw.take i).foldl (Ey c) m.V) (m.H.filter fun x=>kid x !=idk c.ID)).V {At:=c.cw[i].At,ae:=c.ae,Index:=c.Index,Del:=c.cw[i].Del,Val:=c.cw[i].Val}=_:=h4
     simp only [eI,hE,gh hi',cond_true,bD hi',Option.bind_some,h4,cm (show i≤4294967295 by omega),wE _ _ hi']
     rfl) (by simp [eI,bG,hE])
    simpa using this
   have h3':bA (eI true c) (({m with H:=(m.H.filter fun x=>kid x !=idk c.ID)}:aq),(0:Int))=some (vz m (c.cw.foldl (Ey c) m.V) (m.H.filter fun x=>kid x !=idk c.ID)):=h3
   rw [h3']
   refine ⟨c.cw.foldl (DE c) rows,_,rU kid (idk c.ID) l,_,?_,rfl,DA (c:=c) hi c.cw hw hk,t',l',p',hsub⟩
   simp only [cond_true]
   rw [hs]
   rw [show ({s with store:=some {rows:=rows},ft:=some {l:=rU kid (idk c.ID) l}}:ai)=yt s rows (rU kid (idk c.ID) l) from rfl,h1]
   rfl
def dkk (d:bI):Int:=idk d.ID
theorem Ij (d:bI) (i:cy):jZ d i=some (BC d.ID i):=by
 simp only [jZ,Df,Ix,Option.bind_some,BC]
theorem Lp {s:ai} (hr:iF dkk s.open_) (hn:s.open_.length≤1000) (hg:∀ d∈s.open_,idG d.ID) {i:cy} (hi:idG i):jl (some s) i=some (((pl dkk (idk i) s.open_:Nat):Int),hit dkk (idk i) s.open_):=by
 have hs:bA (jH s i) (((s.open_.length:Nat):Int),(0:Int))=some ((lb (lo dkk (idk i)) s.open_:Nat):Int):=by
  refine uB (R:=Int) s.open_ (lo dkk (idk i)) omA (hr.ahd (idk i)) (fun a j k hk hij hke hj=>?_) (fun a j hij=>?_)
  ·have e1:decide ((a:Int)<(j:Int))=true:=by simpa using hij
   have e2:=yx (i:=a) (j:=j) omA
   rw [← hke] at e2
   simp only [jH,e1,cond_true,e2,bD hk,Option.bind_some,Ij]
   have e4:decide (BC s.open_[k].ID i<0)=lo dkk (idk i) s.open_[k]:=by
    unfold lo
    rw [decide_eq_decide]
    exact CQ (hg _ (List.getElem_mem hk)) hi
   rw [e4,cm (show k≤4294967295 by omega)]
   cases lo dkk (idk i) s.open_[k] <;> rfl
  ·have e1:decide ((a:Int)<(j:Int))=false:=by simpa using hij
   simp only [jH,e1,cond_false,bG,Option.map_some]
 unfold jl
 dsimp only
 rw [hs]
 simp only [Option.bind_some,nv]
 rw [show lb (lo dkk (idk i)) s.open_=pl dkk (idk i) s.open_ from rfl]
 unfold hit
 by_cases hk:pl dkk (idk i) s.open_<s.open_.length
 ·rw [gh hk,cond_true,bD hk,Option.bind_some]
  simp only [Ij,Option.bind_some,List.getElem?_eq_getElem hk]
  congr 2
  rw [Bool.eq_iff_iff]
  simp only [beq_iff_eq]
  exact IH (hg _ (List.getElem_mem hk)) hi
 ·have e1:decide (((pl dkk (idk i) s.open_:Nat):Int)<(s.open_.length:Int))=false:=by simpa using hk
  rw [e1,cond_false,List.getElem?_eq_none omA]
  rfl
theorem Gq {m:aq} (hn:m.Open.length≤1000) (hg:∀ d∈m.Open,idG d.ID) {i:cy} (hi:idG i):iu m i=some {m with Open:=m.Open.filter (fun d=>dkk d !=idk i)}:=by
 have h:=nZ (body:=gZ m i) m.Open (fun d=>dkk d !=idk i) (fun d=>d) (fun out=>out) (fun a ha out ho=>by
  have g:=hg _ (List.getElem_mem ha)
  simp only [gZ,gh ha,cond_true,bD ha,Option.bind_some,xe g hi,dl (gC (x:=m.Open[a]) (show out.length≤1073741823 by omega)),cm (show a≤4294967295 by omega)]
  show (bif !(dkk m.Open[a]==idk i) then _ else _)=_
  simp only [bne]
  cases dkk m.Open[a]==idk i <;> rfl) (fun out _=>by simp [gZ,bG])
 rw [List.map_id'] at h
 rw [iu,h,Option.bind_some,lF]
def uk (u:da):Int:=u.jW
def cu (u:da):eO:={ap:=u.jW,ae:=u.cI,N:=u.n}
theorem JC (u:da) (r:Int):kh u r=some (sg u.jW r):=by simp only [kh,Df,Option.bind_some]
theorem MG {s:ai} (hr:iF uk s.used) (hn:s.used.length≤1000) (c:aG):(bA (iw s c) (((s.used.length:Nat):Int),(0:Int))).bind (lq s c)=some (((pl uk c.ap.ID s.used:Nat):Int),hit uk c.ap.ID s.used):=by
 have hs:bA (iw s c) (((s.used.length:Nat):Int),(0:Int))=some ((lb (lo uk c.ap.ID) s.used:Nat):Int):=by
  refine uB (R:=Int) s.used (lo uk c.ap.ID) omA (hr.ahd c.ap.ID) (fun a j k hk hij hke hj=>?_) (fun a j hij=>?_)
  ·have e1:decide ((a:Int)<(j:Int))=true:=by simpa using hij
   have e2:=yx (i:=a) (j:=j) omA
   rw [← hke] at e2
   simp only [iw,e1,cond_true,e2,bD hk,Option.bind_some,JC]
   have e4:decide (sg s.used[k].jW c.ap.ID<0)=lo uk c.ap.ID s.used[k]:=by
    unfold lo
    rw [decide_eq_decide]
    exact IV
   rw [e4,cm (show k≤4294967295 by omega)]
   cases lo uk c.ap.ID s.used[k] <;> rfl
  ·have e1:decide ((a:Int)<(j:Int))=false:=by simpa using hij
   simp only [iw,e1,cond_false,bG,Option.map_some]
 rw [hs]
 simp only [Option.bind_some,lq]
 rw [show lb (lo uk c.ap.ID) s.used=pl uk c.ap.ID s.used from rfl]
 unfold hit
 by_cases hk:pl uk c.ap.ID s.used<s.used.length
 ·rw [gh hk,cond_true,bD hk,Option.bind_some]
  simp only [JC,Option.bind_some,List.getElem?_eq_getElem hk]
  congr 2
  rw [Bool.eq_iff_iff]
  simp only [beq_iff_eq]
  exact GL
 ·have e1:decide (((pl uk c.ap.ID s.used:Nat):Int)<(s.used.length:Int))=false:=by simpa using hk
  rw [e1,cond_false,List.getElem?_eq_none omA]
def vO (id ep acc:Int) (u:eO):Int:=bif u.ap !=id then acc else bif u.ae==ep then u.N else acc
theorem xq {id ep:Int}:∀ {l:List eO} {acc:Int},(∀ u∈l,u.ap≠id)→l.foldl (vO id ep) acc=acc
 | [],_,_=>rfl
 | u::l,acc,h=>by
  have h1:(u.ap !=id)=true:=by simpa using h u siA
  rw [List.foldl_cons,show vO id ep acc u=acc by unfold vO; rw [h1]; rfl]
  exact xq fun v hv=>h v (by simp [hv])
theorem MU {m:aq} (hn:m.pT.length≤1000) (c:aG):bA (gN m c) ((0:Int),(0:Int),[])=some (m.pT.foldl (vO c.ap.ID c.ae) 0,m.pT.filter fun u=>u.ap !=c.ap.ID):=by
 have h:=dW (body:=gN m c) (fun i=>((m.pT.take i).foldl (vO c.ap.ID c.ae) 0,(i:Int),(m.pT.take i).filter fun u=>u.ap !=c.ap.ID)) m.pT.length (m.pT.foldl (vO c.ap.ID c.ae) 0,m.pT.filter fun u=>u.ap !=c.ap.ID) (fun i hi=>by
  have hl:=List.length_filter_le (fun u:eO=>u.ap !=c.ap.ID) (m.pT.take i)
  rw [List.length_take] at hl
  simp only [gN,gh hi,cond_true,bD hi,Option.bind_some,cm (show i≤4294967295 by omega),wE _ _ hi]
  rw [List.take_succ_eq_append_getElem hi,List.filter_append,List.filter_cons,List.filter_nil,dl (gC omA)]
  unfold vO
  cases m.pT[i].ap !=c.ap.ID with
  | true=>rfl
  | false=>cases m.pT[i].ae==c.ae <;> simp) (by simp [gN,bG])
 simpa using h
def wN (l:List da) (id ep:Int):Int:=match jK uk id l with | some u=>bif u.cI==ep then u.n else 0 | none=>0
theorem IN {l:List da} {U:List eO} (hr:iF uk l) (hp:(l.map cu).Perm U) (id ep:Int):U.foldl (vO id ep) 0=wN l id ep:=by
 unfold wN
 cases e:jK uk id l with
 | none =>
  refine xq fun u hu=>?_
  obtain ⟨x,hx,rfl⟩:=List.mem_map.1 (hp.mem_iff.2 hu)
  exact (zo hr).1 e x hx
 | some x =>
  obtain ⟨h1,h2⟩:=(nk hr).1 e
  have hxU:cu x∈U:=hp.mem_iff.1 (List.mem_map_of_mem h1)
  have hnd:(U.map (·.ap)).Nodup:=by
   have h3:((l.map cu).map (·.ap)).Nodup:=by
    rw [List.map_map]
    exact List.pairwise_map.2 (List.Pairwise.imp (fun {a b} h=>fun e=>by have:uk a=uk b:=e; omega) hr)
   exact ((hp.map (·.ap)).nodup_iff).1 h3
  obtain ⟨A,B,rfl⟩:=List.append_of_mem hxU
  rw [List.map_append,List.map_cons] at hnd
  have hA:∀ u∈A,u.ap≠id:=fun u hu e=>by
   have := (List.nodup_append.1 hnd).2.2 u.ap (List.mem_map_of_mem hu) (cu x).ap siA
   exact this (e.trans h2.symm)
  have hB:∀ u∈B,u.ap≠id:=fun u hu e=>by
   have h5:=(List.nodup_cons.1 (List.nodup_append.1 hnd).2.1).1
   exact h5 (List.mem_map.2 ⟨u,hu,e.trans h2.symm⟩)
  have h2':((cu x).ap !=id)=false:=by
   have : (cu x).ap=id:=h2
   simp [this]
  rw [List.foldl_append,List.foldl_cons,xq hA,xq hB]
  unfold vO
  rw [h2']
  rfl
def Fm (d:bI):Prop:=idG d.ID∧d.dM.length≤8∧∀ p∈d.dM,qT p.cw
def Fg (d:bI):Prop:=isU 8 d.ae∧isU 8 d.Index∧isU 1 d.E∧isU 2 d.bY∧(∀ p∈d.dM,isU 1 p.oD)∧d.dM.map vQ=d.dM
def MD (x:dw):Prop:=isU 1 x.To∧isU 8 x.N∧isU 8 x.ap∧isU 8 x.ae∧cf x.W.At=x.W.At∧x.W.Val.length≤256∧U8s x.W.Val
structure GP (s:ai):Prop where
 wd : s.wide=3
 lk : ∀ y,s.ft=some y→∀ x∈y.l,nf x=x
 la : ∀ y,s.last=some y→∀ x∈y.l,xQ x
 bk : ∀ y,s.book=some y→∀ x∈y.l,Gs x
 op : ∀ d∈s.open_,Fg d
 ou : ∀ x∈s.out,MD x
 us : ∀ u∈s.used,isU 8 u.jW∧isU 8 u.cI
structure LP (k:Nat) (s:ai) (m:aq):Prop where
 gp : GP s
 wd : s.wide=m.zJ
 wb : s.wide≤1000000
 ep : s.cI=m.ae
 e1 : 1≤s.cI
 e2 : s.cI≤5
 st : ∃ rows,s.store=some {rows:=rows}∧Inv (32*k) rows m.V
 lk : ∃ l,s.ft=some {l:=l}∧uK l∧l.length≤k∧l.Perm m.H
 la : ∃ t,s.last=some {l:=t}∧gf t∧t.length≤k∧Rel t m.A∧Hv t∧∀ d∈s.open_,d.ID.Seq≤eR d.ID.ab t
 bk : ∃ b,s.book=some b∧m.B=b.l.map eN∧b.l.length≤k∧∀ x∈b.l,wm x.r
 op : iF dkk s.open_∧s.open_.length≤k∧s.open_.Perm m.Open∧∀ d∈s.open_,Fm d
 ou : m.Out=s.out∧s.out.length≤k∧∀ x∈s.out,isF x.W.At
 us : iF uk s.used∧s.used.length≤k∧(s.used.map cu).Perm m.pT∧∀ u∈s.used,0≤u.n∧u.n≤k
theorem LP.up {k:Nat} {s:ai} {m:aq} (h:LP k s m):LP (k+1) s m:=by
 obtain ⟨gp,wd,wb,ep,e1,e2,⟨rows,a1,a2⟩,⟨l,b1,b2,b3,b4⟩,⟨t,c1,c2,c3,c4⟩,⟨b,d1,d2,d3,d4⟩,⟨o1,o2,o3⟩,⟨p1,p2,p3⟩,⟨u1,u2,u3,u4⟩⟩:=h
 exact ⟨gp,wd,wb,ep,e1,e2,⟨rows,a1,a2.up omA⟩,⟨l,b1,b2,by omega,b4⟩,⟨t,c1,c2,by omega,c4⟩,⟨b,d1,d2,by omega,d4⟩,⟨o1,by omega,o3⟩,⟨p1,by omega,p3⟩,⟨u1,by omega,u3,fun u hu=>by have:=u4 u hu; omega⟩⟩
def Step (k:Nat) (s:ai) (m:aq) (n:Int) (c:aG):Prop:=∃ e e' s' m',df (some s) n c=some (e,some s')∧dq m n c=some (e',m')∧DQ e e'∧LP (k+1) s' m'
theorem Bg:okR cE.R:=Bh 0 0 0
theorem La {s:ai} {l:List aw} (hl:s.ft=some {l:=l}) (hn:l.length≤1000):ln (some s)=some (!(l.any fun x=>decide (x.ae≤s.cI))):=by
 show (fY s.ft s.cI).bind _=_
 rw [hl,IP hn]; rfl
theorem Lv {m:aq} (hn:m.H.length≤1000):kt m=some (!(m.H.any fun x=>decide (x.ae≤m.ae))):=by
 have h:=rH (body:=jI m) m.H (fun x=>decide (x.ae≤m.ae)) false true (fun i hi=>by
  simp only [jI,gh hi,cond_true,bD hi,Option.bind_some,cm (show i≤4294967295 by omega)]
  cases decide (m.H[i].ae≤m.ae) <;> rfl) (by simp [jI,bG])
 rw [kt,h]
 cases m.H.any fun x=>decide (x.ae≤m.ae) <;> rfl
theorem Fw {k:Nat} {s:ai} {m:aq} (h:LP k s m) (hk:k≤100) {c:aG} (hc:c.Kind=1) (he:c.ae≤4) (n:Int):Step k s m n c:=by
 obtain ⟨l,b1,b2,b3,b4⟩:=h.lk
 have q1:=La b1 omA
 have q2:=Lv (m:=m) (by have:=b4.length_eq; omega)
 rw [AL b4,h.ep] at q1
 have hA:df (some s) n c=(kl (some s) c).bind fun t=>match t.2 with | none=>none | some y=>some (t.1,some y):=by
  unfold df
  dsimp only
  rw [hc]; rfl
 have hM:dq m n c=(bif (c.ae !=m.ae) then (some (cE,m)) else ((kt m).bind fun t850=>(bif (!t850) then (some (cE,m)) else (bif (decide ((IntKind.u64.wrap (m.ae+(1:Int)))>(9:Int))) then none else (some (({Kind:=(1:Int),ID:=({ab:=(0:Int),Seq:=(0:Int)}:cy),R:=ct}:bU),({m with ae:=(IntKind.u64.wrap (m.ae+(1:Int)))}:aq))))))):=by
  unfold dq
  rw [hc]; rfl
 unfold Step
 rw [hA,hM]
 unfold kl
 dsimp only
 rw [h.ep]
 cases hE:c.ae !=m.ae with
 | true=>exact ⟨_,_,_,_,rfl,rfl,jB Bg,h.up⟩
 | false =>
  have hEq:c.ae=m.ae:=by simpa using hE
  rw [q1,q2]
  simp only [cond_false,Option.bind_some]
  cases m.H.any fun x=>decide (x.ae≤m.ae) with
  | true=>exact ⟨_,_,_,_,rfl,rfl,jB Bg,h.up⟩
  | false =>
   have w:IntKind.u64.wrap (m.ae+(1:Int))=m.ae+1:=by
    have := h.e1; have:=h.e2; have:=h.ep
    rw [jV] <;> omega
   have d:decide (m.ae+1>(9:Int))=false:=decide_eq_false omA
   rw [w,d]
   refine ⟨_,_,_,_,rfl,rfl,jB (Bh 0 0 0),?_⟩
   obtain ⟨gp,wd,wb,ep,e1,e2,a,b,cc,dd,o,p,u⟩:=h.up
   exact ⟨⟨gp.wd,gp.lk,gp.la,gp.bk,gp.op,gp.ou,gp.us⟩,wd,wb,rfl,by show 1≤m.ae+1; omega,by show m.ae+1≤5; omega,a,b,cc,dd,o,p,u⟩
theorem Hx {k:Nat} {s:ai} {m:aq} (h:LP k s m) (hk:k≤100) {c:aG} (hc:c.Kind=2) (hx:Jj c.br) (n:Int):Step k s m n c:=by
 obtain ⟨rows,a1,a2⟩:=h.st
 obtain ⟨l,b1,b2,b3,b4⟩:=h.lk
 obtain ⟨e,e',l',H',q1,q2,q3,q4,q5,q6,q7⟩:=HE a1 b1 h.ep a2 omA b2 omA b4 hc hx.1 n
 obtain ⟨gp,wd,wb,ep,e1,e2,a,b,cc,dd,o,p,u⟩:=h.up
 exact ⟨e,e',_,_,q1,q2,q3,⟨gp.wd,fun y hy x hxl=>by
  cases hy
  rcases q7 x hxl with h | h
  ·exact gp.lk _ b1 x h
  ·rw [h]; exact hx.2,gp.la,gp.bk,gp.op,gp.ou,gp.us⟩,wd,wb,ep,e1,e2,a,⟨l',rfl,q4,by omega,q6⟩,cc,dd,o,p,u⟩
theorem CM {x:Int} (h:isU 8 x):0≤x∧x<18446744073709551616:=by
 obtain ⟨a,b⟩:=h
 rw [pw8] at b
 exact ⟨a,by omega⟩
theorem Ja {k:Nat} {s:ai} {m:aq} (h:LP k s m) (hk:k≤100) {c:aG} (hc:c.Kind=3) (g:HF c) (n:Int):Step k s m n c:=by
 obtain ⟨rows,a1,a2⟩:=h.st
 obtain ⟨l,b1,b2,b3,b4⟩:=h.lk
 obtain ⟨_,gid,ge,gi,_,_,gw,_⟩:=g
 have hep:=CM ge
 have hix:=CM gi
 have hwl:=gw.1
 obtain ⟨rows',V',l',H',q1,q2,q3,q4,q5,q6,q7⟩:=HQ a1 b1 a2 b2 b4 hc gid (fun w hw=>by
  have g:=gw.2 w hw
  exact ⟨g.1,⟨hep.1,hep.2,hix.1,hix.2⟩,g.2.1,g.2.2⟩) omA n
 obtain ⟨gp,wd,wb,ep,e1,e2,a,b,cc,dd,o,p,u⟩:=h.up
 exact ⟨_,_,_,_,q1,q2,jB (Bh 0 0 0),⟨gp.wd,fun y hy x hx=>by cases hy; exact gp.lk _ b1 x (q7 x hx),gp.la,gp.bk,gp.op,gp.ou,gp.us⟩,wd,wb,ep,e1,e2,⟨rows',rfl,q3.up omA⟩,⟨l',rfl,q4,by omega,q6⟩,cc,dd,o,p,u⟩
theorem Em {k:Nat} {s:ai} {m:aq} (h:LP k s m) (hk:k≤100) {c:aG} (hc:c.Kind=5) (hi:idG c.ID) (n:Int):Step k s m n c:=by
 obtain ⟨o1,o2,o3,o4⟩:=h.op
 obtain ⟨t,c1,c2,c3,c4,c5,c6⟩:=h.la
 have hf:=Lp o1 omA (fun d hd=>(o4 d hd).1) hi
 have hm:=Gq (m:=m) (by have:=o3.length_eq; omega) (fun d hd=>(o4 d (o3.mem_iff.2 hd)).1) hi
 have hA:df (some s) n c=(jl (some s) c.ID).bind fun t304=>(bif t304.2 then ((eD s.open_ t304.1 (IntKind.i64.wrap (t304.1+(1:Int)))).bind fun t326=>(some (cE,(some ({s with open_:=t326}:ai))))) else (some (cE,(some s)))):=by
  unfold df
  dsimp only
  rw [hc]; rfl
 have hM:dq m n c=(iu m c.ID).bind fun t=>some (cE,t):=by
  unfold dq
  rw [hc]; rfl
 have hdel:∃ s',df (some s) n c=some (cE,some s')∧s'={s with open_:=rU dkk (idk c.ID) s.open_}:=by
  rw [hA,hf,Option.bind_some]
  dsimp only
  cases hh:hit dkk (idk c.ID) s.open_ with
  | false =>
   have e:rU dkk (idk c.ID) s.open_=s.open_:=by unfold rU pr; rw [hh,cond_false,List.take_append_drop]
   rw [e]
   exact ⟨s,rfl,rfl⟩
  | true =>
   obtain ⟨hk2,h3,h4⟩:=my hh
   have hfit:fits s.open_ ((pl dkk (idk c.ID) s.open_:Nat):Int) ((pl dkk (idk c.ID) s.open_+1:Nat):Int)=true:=by simp [fits]; omega
   rw [cond_true,cm (show pl dkk (idk c.ID) s.open_≤4294967295 by omega),eD,dl hfit,Option.bind_some,Gf hh]
   exact ⟨_,rfl,rfl⟩
 obtain ⟨s',hs1,hs2⟩:=hdel
 subst hs2
 have hmem:∀ d∈rU dkk (idk c.ID) s.open_,d∈s.open_:=fun d hd=>by
  rw [← lW o1] at hd
  exact (List.mem_filter.1 hd).1
 have hlen:=Bn o1 (idk c.ID)
 obtain ⟨gp,wd,wb,ep,e1,e2,a,b,cc,dd,o,p,u⟩:=h.up
 have hs2:dq m n c=some (cE,{m with Open:=m.Open.filter (fun d=>dkk d !=idk c.ID)}):=by rw [hM,hm]; rfl
 refine ⟨_,_,_,_,hs1,hs2,jB Bg,⟨gp.wd,gp.lk,gp.la,gp.bk,fun d hd=>gp.op d (hmem d hd),gp.ou,gp.us⟩,wd,wb,ep,e1,e2,a,b,⟨t,c1,c2,by omega,c4,c5,fun d hd=>c6 d (hmem d hd)⟩,dd,⟨BN o1 _,by show (rU dkk (idk c.ID) s.open_).length≤_; omega,?_,fun d hd=>o4 d (hmem d hd)⟩,p,u⟩
 show (rU dkk (idk c.ID) s.open_).Perm (m.Open.filter fun d=>dkk d !=idk c.ID)
 rw [← lW o1]; exact o3.filter _
theorem EO {k:Nat} {s:ai} {m:aq} (h:LP k s m) (hk:k≤100) {c:aG} (hc:c.Kind=6) (hr:JP c.ap) (n:Int):Step k s m n c:=by
 obtain ⟨b,d1,d2,d3,d4⟩:=h.bk
 have he0:0≤s.cI:=by have:=h.e1; omega
 have q1:=zQ b c.ap.ID s.cI omA
 have q2:=Fv b c.ap s.cI omA
 have q3:=Aq b.l c.ap.ID s.cI he0 omA
 rw [← d2,h.ep] at q3
 rw [h.ep] at q1 q2
 have hA:df (some s) n c=(bif c.On then ((iZ s.book c.ap s.cI).bind fun t349=>(some (cE,(some ({s with book:=t349}:ai))))) else ((gF s.book c.ap.ID s.cI).bind fun t360=>(some (cE,(some ({s with book:=t360.2}:ai)))))):=by
  unfold df
  dsimp only
  rw [hc]; rfl
 have hM:dq m n c=(pw m.B c.ap.ID m.ae).bind fun t1281=>(bif c.On then (gd (room t1281.1 ([({R:=c.ap,dn:=m.ae,To:=(0:Int)}:dz)])) (some (cE,({m with B:=(t1281.1++([({R:=c.ap,dn:=m.ae,To:=(0:Int)}:dz)]))}:aq)))) else (some (cE,({m with B:=t1281.1}:aq)))):=by
  unfold dq
  rw [hc]; rfl
 have hrv:∀ x∈b.l.map (ik c.ap.ID m.ae),wm x.r:=fun x hx=>by
  obtain ⟨y,hy,rfl⟩:=List.mem_map.1 hx
  have : (ik c.ap.ID m.ae y).r=y.r:=by unfold ik; cases qc c.ap.ID y <;> rfl
  rw [this]; exact d4 y hy
 have hE:isU 8 m.ae:=by rw [← h.ep]; exact ⟨he0,by have:=h.e2; rw [pw8]; omega⟩
 have hrn:∀ x∈b.l.map (ik c.ap.ID m.ae),Gs x:=fun x hx=>by
  obtain ⟨y,hy,rfl⟩:=List.mem_map.1 hx
  have g:=h.gp.bk b d1 y hy
  unfold ik
  cases qc c.ap.ID y with
  | false=>exact g
  | true =>
   refine ⟨g.1,g.2.1,g.2.2.1,?_⟩
   show isU 8 (if (1:Int)>m.ae then 1 else m.ae)
   split
   ·exact ⟨by decide,by decide⟩
   ·exact hE
 unfold Step
 rw [hA,hM,q3,d1,h.ep,q1,q2]
 obtain ⟨gp,wd,wb,ep,e1,e2,a,bb,cc,dd,o,p,u⟩:=h.up
 cases c.On with
 | false =>
  refine ⟨_,_,_,_,rfl,rfl,jB Bg,⟨gp.wd,gp.lk,gp.la,fun y hy=>by cases hy; exact hrn,gp.op,gp.ou,gp.us⟩,wd,wb,rfl,by rw [← h.ep]; exact e1,by rw [← h.ep]; exact e2,a,bb,cc,⟨_,rfl,rfl,?_,hrv⟩,o,p,u⟩
  show (b.l.map (ik c.ap.ID m.ae)).length≤_
  rw [List.length_map]; omega
 | true =>
  have hroom:room ((b.l.map (ik c.ap.ID m.ae)).map eN) [({R:=c.ap,dn:=m.ae,To:=(0:Int)}:dz)]=true:=gC (by rw [List.length_map,List.length_map]; omega)
  simp only [Option.bind_some,cond_true,dl hroom]
  refine ⟨_,_,_,_,rfl,rfl,jB Bg,⟨gp.wd,gp.lk,gp.la,fun y hy x hx=>?_,gp.op,gp.ou,gp.us⟩,wd,wb,rfl,by rw [← h.ep]; exact e1,by rw [← h.ep]; exact e2,a,bb,cc,⟨_,rfl,?_,?_,fun x hx=>?_⟩,o,p,u⟩
  ·cases hy
   rcases List.mem_append.1 hx with hx | hx
   ·exact hrn x hx
   ·rw [List.mem_singleton.1 hx]; exact ⟨hr.1,hr.2,hE,u0 8⟩
  ·show _=(b.l.map (ik c.ap.ID m.ae)++[({r:=c.ap,from_:=m.ae,to_:=0}:dj)]).map eN
   rw [List.map_append]; rfl
  ·show (b.l.map (ik c.ap.ID m.ae)++[_]).length≤_
   rw [List.length_append,List.length_map,List.length_singleton]; omega
  ·rcases List.mem_append.1 hx with hx | hx
   ·exact hrv x hx
   ·rw [List.mem_singleton.1 hx]; exact ⟨hr.1.2.2.2.1,hr.1.2.2.2.2.1⟩
theorem DV {t:List aZ} (hr:gf t) (h:∀ x∈t,xQ x) {s q:Int} {r:bB} (hs:isU 8 s) (hq:isU 8 q) (g:td r) (hc:tc r=r):∀ x∈oY t (qd s q r),xQ x:=fun x hx=>by
 rcases List.mem_cons.1 ((sJ hr (qd s q r)).mem_iff.1 hx) with rfl | h4
 ·exact ⟨hs,hq,g,hc⟩
 ·exact h x (List.mem_filter.1 h4).1
theorem Co {t:List aZ} (h:gf t) (s q:Int) (r:bB) (x:Int):eR x (oY t (qd s q r))=if x=s then q else eR x t:=by
 unfold eR
 rw [Fp h]
 by_cases hx:x=s
 ·rw [if_pos (show x=(qd s q r).cV from hx),if_pos hx]; rfl
 ·rw [if_neg (show ¬ x=(qd s q r).cV from hx),if_neg hx]
def vc (t:List aZ) (i:cy):Int:=if i.Seq=0 then 1 else if eR i.ab t≥i.Seq then 10 else 0
theorem Cn {t:List aZ} {A:List dg} (hr:gf t) (hn:t.length≤1000) (hrel:Rel t A) {i:cy} (hi:0≤i.Seq) (r:bB) :
  gX (some {l:=t}) i.ab i.Seq r=some (vc t i,some {l:=if vc t i=0 then oY t (qd i.ab i.Seq r) else t})∧qw A i.ab i.Seq r=some (if vc t i=0 then an (qd i.ab i.Seq r)::A.filter (fun a=>a.ab !=i.ab) else A,vc t i):=by
 have h1:=IL hr omA i.ab i.Seq r hi
 have h2:=Ka hr hrel omA i.ab i.Seq r
 rw [h1,h2]
 unfold vc
 by_cases h0:i.Seq=0
 ·simp [h0]
 ·by_cases h5:eR i.ab t≥i.Seq
  ·simp [h0,h5]
  ·simp [h0,h5]
theorem GX {s:ai} {t:List aZ} {A:List dg} (hs:s.last=some {l:=t}) (hr:gf t) (hn:t.length≤1000) (hrel:Rel t A) (i:cy) :
  kz (some s) i=some (if eR i.ab t>i.Seq then {Kind:=4,ID:=i,R:={E:=10,ae:=0,Index:=0,dT:=[],aX:=[]}} else cE)∧∃ a,kr A i.ab=some a∧a.Seq=eR i.ab t:=by
 refine ⟨?_,_,AY hr hrel omA i.ab,by unfold eR; cases ij i.ab t <;> rfl⟩
 show (fH s.last i.ab).bind _=_
 rw [hs,BU hr omA,Option.bind_some]
 by_cases h:eR i.ab t>i.Seq
 ·have : decide (eR i.ab t≤i.Seq)=false:=decide_eq_false omA
  rw [this,if_pos h]; rfl
 ·have : decide (eR i.ab t≤i.Seq)=true:=decide_eq_true omA
  rw [this,if_neg h]; rfl
theorem Jz (n:Int) (i:cy) (p:Prop) [Decidable p]:okR (if p then ({Kind:=4,ID:=i,R:={E:=10,ae:=0,Index:=0,dT:=[],aX:=[]}}:bU) else cE).R:=by
 split
 ·exact Bh 10 0 0
 ·exact Bg
theorem Ih {R:Type} (x y:Bool) (A:Option R) (f:Unit→Option R):hQ (bif x then (bif y then bG A else some (Sum.inl ())) else some (Sum.inl ())) f=bif (x&&y) then A else f ():=by
 cases x <;> cases y <;> cases A <;> rfl
def zk (E:Int) (c:aG):Int×List cC×List (List bP):=bif c.R.E==(0:Int) then (bif c.ae !=E then (9,[],[]) else (c.R.E,c.R.dT,c.R.aX)) else (c.R.E,c.R.dT,c.R.aX)
theorem Kr (E:Int) {c:aG} (h:td c.R) (n:Int):okR {E:=(zk E c).1,ae:=c.ae,Index:=n,dT:=(zk E c).2.1,aX:=(zk E c).2.2}:=by
 have h1:=Mz h
 have h2:okR {c.R with ae:=c.ae,Index:=n}:=⟨h1.1,h1.2.1,h1.2.2⟩
 unfold zk
 cases c.R.E==(0:Int) with
 | false=>exact h2
 | true =>
  cases c.ae !=E with
  | false=>exact h2
  | true=>exact Bh _ _ _
theorem Ir (v:Int) (h:0≤v∧v<256:=by decide):isU 1 v:=⟨h.1,by rw [pw1]; exact h.2⟩
theorem Ll:isU 1 9:=Ir 9
theorem LA (E:Int) {c:aG} (h:Bq c.R) (he:isU 8 c.ae) {n:Int} (hn:isU 8 n):Bq {E:=(zk E c).1,ae:=c.ae,Index:=n,dT:=(zk E c).2.1,aX:=(zk E c).2.2}:=by
 obtain ⟨⟨h1,_,_,h4,h5,h6,h7⟩,hc⟩:=h
 have h2:Bq {c.R with ae:=c.ae,Index:=n}:=⟨⟨h1,he,hn,h4,h5,h6,h7⟩,by
  have e1:=congrArg bB.dT hc
  have e2:=congrArg bB.aX hc
  simp only [tc] at e1 e2 ⊢
  rw [e1,e2]⟩
 unfold zk
 cases c.R.E==(0:Int) with
 | false=>exact h2
 | true =>
  cases c.ae !=E with
  | false=>exact h2
  | true=>exact ⟨⟨Ll,he,hn,ia,ia,Nat.zero_le _,Nat.zero_le _⟩,rfl⟩
theorem Bj {s:ai} {t:List aZ} (h:s.last=some {l:=t}):({s with last:=some {l:=t}}:ai)=s:=by
 obtain ⟨w,e,st,lk,la,bk,op,o,u⟩:=s
 dsimp only at h
 subst h; rfl
theorem BW {k:Nat} {s:ai} {m:aq} (h:LP k s m) {t:List aZ} (c1:s.last=some {l:=t}) (c2:gf t) (c3:t.length≤1000) (c4:Rel t m.A) (i:cy) :
  ∃ e,kz (some s) i=some e∧((kr m.A i.ab).bind fun a=>(bif (decide (a.Seq>i.Seq)) then (some (({Kind:=(4:Int),ID:=i,R:=({E:=(10:Int),ae:=(0:Int),Index:=(0:Int),dT:=[],aX:=[]}:bB)}:bU),m)) else (some (cE,m))))=some (e,m)∧DQ e e:=by
 obtain ⟨h1,a,h2,h3⟩:=GX c1 c2 c3 c4 i
 refine ⟨_,h1,?_,jB (Jz 0 i _)⟩
 rw [h2,Option.bind_some,h3]
 by_cases hx:eR i.ab t>i.Seq
 ·rw [decide_eq_true hx,if_pos hx]; rfl
 ·rw [decide_eq_false hx,if_neg hx]; rfl
theorem Er {k:Nat} {s:ai} {m:aq} (h:LP k s m) (hk:k≤100) {c:aG} (hc:c.Kind=4) (g:HF c) (hcc:BH c=c) {n:Int} (hn:isU 8 n):Step k s m n c:=by
 have n1:c.dM.map vQ=c.dM:=by have:=congrArg aG.dM hcc; simpa [BH,hc] using this
 have n2:tc c.R=c.R:=by have:=congrArg aG.R hcc; simpa [BH,hc] using this
 obtain ⟨t,c1,c2,c3,c4,c5,c6⟩:=h.la
 obtain ⟨o1,o2,o3,o4⟩:=h.op
 obtain ⟨_,gid,gep,_,_,_,_,gr,gsh,gp,gps,_⟩:=g
 have hrn:=LA m.ae ⟨gr,n2⟩ gep hn
 have hseq:=(CM gid.2).1
 have hA:df (some s) n c=(iX (some s) n c).bind fun t=>match t.2 with | none=>none | some y=>some (t.1,some y):=by
  unfold df
  dsimp only
  rw [hc]; rfl
 have hM:dq m n c=(jw m n c).bind fun t=>some (t.1,t.2):=by
  unfold dq
  rw [hc]; rfl
 have hdA:iX (some s) n c=jT c s n (zk s.cI c):=by
  unfold iX zk
  dsimp only
  cases c.R.E==(0:Int) with
  | false=>rfl
  | true=>cases c.ae !=s.cI <;> rfl
 have hdM:jw m n c=jr c m n (zk m.ae c):=by
  unfold jw zk
  cases c.R.E==(0:Int) with
  | false=>rfl
  | true=>cases c.ae !=m.ae <;> rfl
 have hok:=Kr m.ae gr n
 unfold Step
 rw [hA,hM,hdA,hdM,h.ep]
 generalize zk m.ae c=q at hok hrn
 obtain ⟨E',G,S⟩:=q
 dsimp only at hok hrn
 simp only [jT,jr,Ih]
 cases hb:(E' !=(0:Int))&&decide (c.ID.ab≥(9223372036854775808:Int)) with
 | true=>exact ⟨_,_,_,_,rfl,rfl,jB Bg,h.up⟩
 | false =>
  simp only [cond_false]
  obtain ⟨p1,p2⟩:=Cn c2 omA c4 hseq ({E:=E',ae:=c.ae,Index:=n,dT:=G,aX:=S}:bB)
  have hsl:=Bj c1
  simp only [mw,lH,c1,p1,p2,Option.bind_some]
  by_cases hz:vc t c.ID=0
  ·have b0:(vc t c.ID !=(0:Int))=false:=by simpa using hz
   rw [b0,if_pos hz,if_pos hz]
   simp only [cond_false]
   have hlt:c.ID.Seq≠0∧eR c.ID.ab t<c.ID.Seq:=by
    unfold vc at hz
    by_cases h0:c.ID.Seq=0
    ·rw [if_pos h0] at hz; cases hz
    ·rw [if_neg h0] at hz
     by_cases h1:eR c.ID.ab t≥c.ID.Seq
     ·rw [if_pos h1] at hz; cases hz
     ·omega
   obtain ⟨T,hT⟩:∃ T,T=oY t (qd c.ID.ab c.ID.Seq {E:=E',ae:=c.ae,Index:=n,dT:=G,aX:=S}):=⟨_,rfl⟩
   obtain ⟨A',hA'⟩:∃ A',A'=an (qd c.ID.ab c.ID.Seq {E:=E',ae:=c.ae,Index:=n,dT:=G,aX:=S})::m.A.filter (fun a=>a.ab !=c.ID.ab):=⟨_,rfl⟩
   rw [← hT,← hA']
   have r1:gf T:=by rw [hT]; exact sW c2 _
   have r2:T.length≤k+1:=by rw [hT]; have:=AK c2 (qd c.ID.ab c.ID.Seq {E:=E',ae:=c.ae,Index:=n,dT:=G,aX:=S}); omega
   have r3:Rel T A':=by rw [hT,hA']; exact BK c2 c4 _
   have r4:Hv T:=by rw [hT]; exact DT c2 c5 ⟨hok,by show 0<c.ID.Seq; omega⟩
   have r5:∀ x,eR x T=if x=c.ID.ab then c.ID.Seq else eR x t:=fun x=>by rw [hT]; exact Co c2 _ _ _ x
   have r6:∀ d∈s.open_,d.ID.Seq≤eR d.ID.ab T:=fun d hd=>by
    have := c6 d hd
    rw [r5]
    split
    ·rename_i e; rw [e] at this; omega
    ·exact this
   have r7:∀ x∈T,xQ x:=by rw [hT]; exact DV c2 (h.gp.la _ c1) gid.1 gid.2 hrn.1 hrn.2
   obtain ⟨gg,wd,wb,ep,e1,e2,a,b,cc,dd,o,p,u⟩:=h.up
   cases hs:c.bY !=(0:Int) with
   | false=>exact ⟨_,_,_,_,rfl,rfl,jB hok,⟨gg.wd,gg.lk,fun y hy=>by cases hy; exact r7,gg.bk,gg.op,gg.ou,gg.us⟩,wd,wb,ep,e1,e2,a,b,⟨T,rfl,r1,r2,r3,r4,r6⟩,dd,o,p,u⟩
   | true =>
    simp only [cond_true]
    obtain ⟨P,hP⟩:∃ P,P=bif E'==(0:Int) then c.dM else []:=⟨_,rfl⟩
    have hp1:(bif E'==(0:Int) then (fw c.dM).bind fun t416=>some t416 else some [])=some P:=by
     rw [hP]
     cases E'==(0:Int) with
     | false=>rfl
     | true =>
      have : fw c.dM=some c.dM:=dl (room_le lnA)
      rw [this]; rfl
    have hp2:(bif E'==(0:Int) then some c.dM else some [])=some P:=by rw [hP]; cases E'==(0:Int) <;> rfl
    have gP:P.length≤8∧∀ p∈P,qT p.cw:=by
     rw [hP]
     cases E'==(0:Int) with
     | false=>exact ⟨Nat.zero_le _,fun p hp=>by cases hp⟩
     | true=>exact ⟨gp,fun p hp=>(gps p hp).2⟩
    have gP2:(∀ p∈P,isU 1 p.oD)∧P.map vQ=P:=by
     rw [hP]
     cases E'==(0:Int) with
     | false=>exact ⟨ia,rfl⟩
     | true=>exact ⟨fun p hp=>(gps p hp).1,n1⟩
    have hmiss:hit dkk (idk c.ID) s.open_=false:=by
     cases hh:hit dkk (idk c.ID) s.open_ with
     | false=>rfl
     | true =>
      obtain ⟨hk2,h3,_⟩:=my hh
      have hm2:=List.getElem_mem hk2
      have h4:s.open_[pl dkk (idk c.ID) s.open_].ID=c.ID:=(EE (o4 _ hm2).1 gid).1 h3
      have h5:=c6 _ hm2
      rw [h4] at h5
      omega
    obtain ⟨D,hD⟩:∃ D:bI,D={c with E:=E',Index:=n,dM:=P}:=⟨_,rfl⟩
    have hDk:dkk D=idk c.ID:=by rw [hD]; rfl
    have hf:=Lp (s:={s with last:=some {l:=T}}) o1 (by show s.open_.length≤_; omega) (fun d hd=>(o4 d hd).1) gid
    have hins:eE s.open_ ((pl dkk (idk c.ID) s.open_:Nat):Int) [D]=some (mZ dkk s.open_ D):=by
     have h1:=wQ (k:=dkk) (l:=s.open_) (x:=D) (by rw [hDk]; exact hmiss)
     rw [hDk] at h1
     unfold eE
     rw [dl (wj (x:=D) (idk c.ID) omA),h1]
    have hfo:=Gq (m:={m with A:=A'}) (by show m.Open.length≤_; have:=o3.length_eq; omega) (fun d hd=>(o4 d (o3.mem_iff.2 hd)).1) gid
    have hl:=List.length_filter_le (fun d:bI=>dkk d !=idk c.ID) m.Open
    have hlen:=o3.length_eq
    rw [hp1,hp2]
    simp only [Option.bind_some,mn,hf,hfo,← hD,hins,lK,lS,lJ]
    rw [dl (gC omA)]
    have hpl:=wS o1 D
    refine ⟨_,_,_,_,rfl,rfl,jB hok,⟨gg.wd,gg.lk,fun y hy=>by cases hy; exact r7,gg.bk,fun d hd=>?_,gg.ou,gg.us⟩,wd,wb,ep,e1,e2,a,b,⟨T,rfl,r1,r2,r3,r4,fun d hd=>?_⟩,dd,⟨tH o1 D,by show (mZ dkk s.open_ D).length≤_; omega,?_,fun d hd=>?_⟩,p,u⟩
    ·rcases (lx o1 D d).1 hd with rfl | ⟨h1,_⟩
     ·rw [hD]; exact ⟨gep,hn,hrn.1.1,gsh,gP2.1,gP2.2⟩
     ·exact gg.op d h1
    ·rcases (lx o1 D d).1 hd with rfl | ⟨h1,_⟩
     ·show d.ID.Seq≤eR d.ID.ab T
      rw [r5,hD,if_pos rfl]; exact Int.le_refl _
     ·exact r6 d h1
    ·show (mZ dkk s.open_ D).Perm (m.Open.filter (fun d=>dkk d !=idk c.ID)++[D])
     refine (sl o1 D).trans ?_
     rw [hDk]
     exact ((o3.filter _).cons D).trans (List.perm_append_comm (l₁:=[D]))
    ·rcases (lx o1 D d).1 hd with rfl | ⟨h1,_⟩
     ·rw [hD]; exact ⟨gid,gP⟩
     ·exact o4 d h1
  ·have b0:(vc t c.ID !=(0:Int))=true:=by simpa using hz
   rw [b0,if_neg hz]
   simp only [cond_true,hsl]
   obtain ⟨e,q1,q2,q3⟩:=BW h c1 c2 omA c4 c.ID
   rw [q1,q2]
   exact ⟨_,_,_,_,rfl,rfl,q3,h.up⟩
theorem DH {l:List dw} {body:Int×List dw→Option ((Int×List dw) ⊕ List dw)} (to:Int) (hn:l.length≤1000)
  (h1 : ∀ (i:Nat) (hi:i<l.length) (acc:List dw),acc.length≤i→body ((i:Int),acc)=(bif (l[i].To==to) then (gd (room acc ([l[i]])) (some (Sum.inl ((IntKind.i64.wrap ((i:Int)+(1:Int))),(acc++([l[i]])))))) else (some (Sum.inl ((IntKind.i64.wrap ((i:Int)+(1:Int))),acc)))))
  (h2 : ∀ acc,body ((l.length:Int),acc)=some (Sum.inr acc)):bA body ((0:Int),[])=some (l.filter fun x=>x.To==to):=by
 have h:=dW (body:=body) (fun i=>((i:Int),(l.take i).filter fun x=>x.To==to)) l.length (l.filter fun x=>x.To==to) (fun i hi=>by
  have hl:=List.length_filter_le (fun x:dw=>x.To==to) (l.take i)
  rw [List.length_take] at hl
  rw [h1 i hi _ omA,cm (show i≤4294967295 by omega),List.take_succ_eq_append_getElem hi,List.filter_append,List.filter_cons,List.filter_nil,dl (gC omA)]
  cases l[i].To==to <;> simp) (by rw [h2,List.take_length])
 simpa using h
def yE (E n0:Int) (c:aG):Int:=bif c.R.E !=(0:Int) then c.R.E else bif c.ae !=E then 9 else bif ((c.cw.length:Int) !=(1:Int)) then 1 else bif decide (n0≥c.ap.cx) then 13 else c.R.E
theorem Kf {E n0:Int} {c:aG} (h:yE E n0 c=0):c.ae=E∧∃ w,c.cw=[w]:=by
 unfold yE at h
 cases h1:c.R.E !=(0:Int) with
 | true =>
  rw [h1,cond_true] at h
  rw [h] at h1; cases h1
 | false =>
  rw [h1,cond_false] at h
  cases h2:c.ae !=E with
  | true=>rw [h2] at h; cases h
  | false =>
   rw [h2,cond_false] at h
   cases h3:((c.cw.length:Int) !=(1:Int)) with
   | true=>rw [h3] at h; cases h
   | false =>
    have h4:c.cw.length=1:=by
     have : (c.cw.length:Int)=1:=by simpa using h3
     omega
    exact ⟨by simpa using h2,List.length_eq_one_iff.1 h4⟩
theorem Kc {E n0:Int} {c:aG} (h:isU 1 c.R.E):isU 1 (yE E n0 c):=by
 unfold yE
 cases c.R.E !=(0:Int) <;> cases c.ae !=E <;> cases (c.cw.length:Int) !=(1:Int) <;> cases decide (n0≥c.ap.cx) <;> first | exact h | exact Ll | exact Ir 1 | exact Ir 13
theorem Ks (n:Nat) {v:List Int} (h:U8s v):U8s (zt n v):=fun y hy=>by
 obtain ⟨i,_,rfl⟩:=List.mem_map.1 hy
 cases e:v[i]? with
 | none=>exact ⟨by decide,by decide⟩
 | some z=>exact h z (List.mem_of_getElem? e)
theorem Ej (v:Int):isU 8 (IntKind.u64.wrap v):=⟨by rw [kO]; omega,by rw [pw8,kO]; omega⟩
theorem LX {s:ai} (hr:iF uk s.used) (hn:s.used.length≤1000) (c:aG) (n:Int):km (some s) n c=lj s c n (hit uk c.ap.ID s.used) ((pl uk c.ap.ID s.used:Nat):Int) (wN s.used c.ap.ID c.ae) (yE s.cI (wN s.used c.ap.ID c.ae) c):=by
 have hu:=MG hr hn c
 unfold km
 dsimp only
 rw [hu,Option.bind_some]
 dsimp only
 have h1:(bif hit uk c.ap.ID s.used then ((dC s.used ((pl uk c.ap.ID s.used:Nat):Int)).bind fun x740=>(bif (x740.cI==c.ae) then (some x740.n) else (some (0:Int)))) else (some (0:Int)))=some (wN s.used c.ap.ID c.ae):=by
  unfold wN
  cases hh:hit uk c.ap.ID s.used with
  | false=>simp [jK,hh]
  | true =>
   obtain ⟨hk,h3,h4⟩:=my hh
   rw [h4,cond_true,bD hk,Option.bind_some]
   dsimp only
   cases s.used[pl uk c.ap.ID s.used].cI==c.ae <;> rfl
 rw [h1,Option.bind_some]
 unfold nw yE
 cases c.R.E !=(0:Int) with
 | true=>rfl
 | false =>
  cases c.ae !=s.cI with
  | true=>rfl
  | false =>
   cases ((c.cw.length:Int) !=(1:Int)) with
   | true=>rfl
   | false=>cases decide (wN s.used c.ap.ID c.ae≥c.ap.cx) <;> rfl
theorem Mx {m:aq} (hn:m.pT.length≤1000) (c:aG) (n:Int):kU m n c=eY m c n (m.pT.filter fun u=>u.ap !=c.ap.ID) (m.pT.foldl (vO c.ap.ID c.ae) 0) (yE m.ae (m.pT.foldl (vO c.ap.ID c.ae) 0) c):=by
 unfold kU
 rw [MU hn c,Option.bind_some]
 generalize m.pT.foldl (vO c.ap.ID c.ae) 0=n0
 generalize (m.pT.filter fun u=>u.ap !=c.ap.ID)=rest
 have key:∀ z:Int,z≠0→kJ c n0 m n rest z=eY m c n rest n0 z:=fun z hz=>by
  have b:(z==(0:Int))=false:=by simpa using hz
  simp only [kJ,kF,b,cond_false,Option.bind_some]
 have key2:kF n0 c m n rest 1=eY m c n rest n0 1:=rfl
 unfold mO yE
 dsimp only
 cases hE:c.R.E==(0:Int) with
 | false =>
  have h0:c.R.E≠0:=by simpa using hE
  have h1:(c.R.E !=(0:Int))=true:=by simpa using h0
  rw [h1]
  exact key _ h0
 | true =>
  have h0:c.R.E=0:=by simpa using hE
  rw [h0]
  show ((bif c.ae !=m.ae then some (9:Int) else some (0:Int)).bind _)=eY m c n rest n0 (bif c.ae !=m.ae then 9 else _)
  cases c.ae !=m.ae with
  | true=>exact key 9 deA
  | false =>
   show ((bif ((c.cw.length:Int) !=(1:Int)) then some (1:Int) else some (0:Int)).bind _)=eY m c n rest n0 (bif ((c.cw.length:Int) !=(1:Int)) then 1 else _)
   cases ((c.cw.length:Int) !=(1:Int)) with
   | true=>exact key2
   | false =>
    show ((bif (decide (n0≥c.ap.cx)) then some (13:Int) else some (0:Int)).bind _)=eY m c n rest n0 (bif (decide (n0≥c.ap.cx)) then 13 else 0)
    cases decide (n0≥c.ap.cx) <;> rfl
theorem Kj {l:List da} {k:Nat} (hr:iF uk l) (h:∀ u∈l,0≤u.n∧u.n≤k) (id ep:Int):0≤wN l id ep∧wN l id ep≤k:=by
 unfold wN
 cases e:jK uk id l with
 | none=>dsimp only; omega
 | some u =>
  have := h u ((nk hr).1 e).1
  dsimp only
  cases u.cI==ep with
  | true=>exact this
  | false=>show (0:Int)≤0∧(0:Int)≤k; omega
theorem Hz {k:Nat} {s:ai} {m:aq} (h:LP k s m) (hk:k≤100) {c:aG} (hc:c.Kind=7) (g:HF c) (hcc:BH c=c) {n:Int} (hn:isU 8 n):Step k s m n c:=by
 have n1:tw c.cw=c.cw:=by have:=congrArg aG.cw hcc; simpa [BH,hc] using this
 obtain ⟨t,c1,c2,c3,c4,c5,c6⟩:=h.la
 obtain ⟨u1,u2,u3,u4⟩:=h.us
 obtain ⟨x1,x2,x3⟩:=h.ou
 obtain ⟨_,gid,gep,_,_,_,gw,gr,_,_,_,grl⟩:=g
 have hseq:=(CM gid.2).1
 have hUl:m.pT.length=s.used.length:=by have:=u3.length_eq; rw [List.length_map] at this; omega
 have hN:=IN u1 u3 c.ap.ID c.ae
 have hNb:=Kj u1 u4 c.ap.ID c.ae
 have hA:df (some s) n c=(km (some s) n c).bind fun t=>match t.2 with | none=>none | some y=>some (t.1,some y):=by
  unfold df
  dsimp only
  rw [hc]; rfl
 have hM:dq m n c=(kU m n c).bind fun t=>some (t.1,t.2):=by
  unfold dq
  rw [hc]; rfl
 unfold Step
 rw [hA,hM,LX u1 omA c n,Mx omA c n,hN,h.ep]
 generalize hn0:wN s.used c.ap.ID c.ae=n0 at hNb
 have hE1:=Kc (E:=m.ae) (n0:=n0) gr.1
 generalize hE':yE m.ae n0 c=E' at hE1
 obtain ⟨p1,p2⟩:=Cn c2 omA c4 hseq ({E:=E',ae:=c.ae,Index:=n,dT:=[],aX:=[]}:bB)
 have hok:okR {E:=E',ae:=c.ae,Index:=n,dT:=[],aX:=[]}:=Bh _ _ _
 have hsl:=Bj c1
 simp only [lj,eY,c1,p1,p2,Option.bind_some]
 by_cases hz:vc t c.ID=0
 ·have b0:(vc t c.ID !=(0:Int))=false:=by simpa using hz
  rw [b0,if_pos hz,if_pos hz]
  simp only [cond_false]
  have hlt:c.ID.Seq≠0∧eR c.ID.ab t<c.ID.Seq:=by
   unfold vc at hz
   by_cases h0:c.ID.Seq=0
   ·rw [if_pos h0] at hz; cases hz
   ·rw [if_neg h0] at hz
    by_cases h1:eR c.ID.ab t≥c.ID.Seq
    ·rw [if_pos h1] at hz; cases hz
    ·omega
  obtain ⟨T,hT⟩:∃ T,T=oY t (qd c.ID.ab c.ID.Seq {E:=E',ae:=c.ae,Index:=n,dT:=[],aX:=[]}):=⟨_,rfl⟩
  obtain ⟨A',hA'⟩:∃ A',A'=an (qd c.ID.ab c.ID.Seq {E:=E',ae:=c.ae,Index:=n,dT:=[],aX:=[]})::m.A.filter (fun a=>a.ab !=c.ID.ab):=⟨_,rfl⟩
  rw [← hT,← hA']
  have r1:gf T:=by rw [hT]; exact sW c2 _
  have r2:T.length≤k+1:=by rw [hT]; have:=AK c2 (qd c.ID.ab c.ID.Seq {E:=E',ae:=c.ae,Index:=n,dT:=[],aX:=[]}); omega
  have r3:Rel T A':=by rw [hT,hA']; exact BK c2 c4 _
  have r4:Hv T:=by rw [hT]; exact DT c2 c5 ⟨hok,by show 0<c.ID.Seq; omega⟩
  have r5:∀ x,eR x T=if x=c.ID.ab then c.ID.Seq else eR x t:=fun x=>by rw [hT]; exact Co c2 _ _ _ x
  have r6:∀ d∈s.open_,d.ID.Seq≤eR d.ID.ab T:=fun d hd=>by
   have := c6 d hd
   rw [r5]
   split
   ·rename_i e; rw [e] at this; omega
   ·exact this
  have r7:∀ x∈T,xQ x:=by rw [hT]; exact DV c2 (h.gp.la _ c1) gid.1 gid.2 ⟨hE1,gep,hn,ia,ia,Nat.zero_le _,Nat.zero_le _⟩ rfl
  obtain ⟨gg,wd,wb,ep,e1,e2,a,b,cc,dd,o,p,u⟩:=h.up
  cases hz2:E'==(0:Int) with
  | false=>exact ⟨_,_,_,_,rfl,rfl,jB hok,⟨gg.wd,gg.lk,fun y hy=>by cases hy; exact r7,gg.bk,gg.op,gg.ou,gg.us⟩,wd,wb,ep,e1,e2,a,b,⟨T,rfl,r1,r2,r3,r4,r6⟩,dd,o,p,u⟩
  | true =>
   have hE0:E'=0:=by simpa using hz2
   rw [hE0] at hE'
   obtain ⟨hce,w,hw⟩:=Kf hE'
   have gw1:=gw.2 w (by rw [hw]; simp)
   obtain ⟨X,hX⟩:∃ X:da,X={jW:=c.ap.ID,cI:=c.ae,n:=n0+1}:=⟨_,rfl⟩
   have hwn:IntKind.i64.wrap (n0+(1:Int))=n0+1:=by rw [wrap_i64] <;> omega
   have g0:dC c.cw (0:Int)=some w:=by rw [hw]; rfl
   have hle:=ze uk c.ap.ID s.used
   -- the table of uses
   have hused:∃ U1:List da,∃ x:da,(bif (!(hit uk c.ap.ID s.used)) then ((fa s.used ((pl uk c.ap.ID s.used:Nat):Int) ([({jW:=c.ap.ID,cI:=(0:Int),n:=(0:Int)}:da)])).bind fun t832=>(some ({s with last:=some {l:=T},used:=t832}:ai))) else (some ({s with last:=some {l:=T}}:ai)))=some ({s with last:=some {l:=T},used:=U1}:ai)∧dC U1 ((pl uk c.ap.ID s.used:Nat):Int)=some x∧x.jW=c.ap.ID∧U1.set (pl uk c.ap.ID s.used) X=mZ uk s.used X:=by
    have hXk:uk X=c.ap.ID:=by rw [hX]; rfl
    cases hh:hit uk c.ap.ID s.used with
    | true =>
     obtain ⟨hk2,h3,h4⟩:=my hh
     have hs:=Al (k:=uk) (l:=s.used) (x:=X) (by rw [hXk]; exact hh)
     rw [hXk] at hs
     exact ⟨s.used,_,rfl,bD hk2,h3,hs⟩
    | false =>
     have hm1:=wQ (k:=uk) (l:=s.used) (x:={jW:=c.ap.ID,cI:=(0:Int),n:=(0:Int)}) hh
     have hp:=JW (k:=uk) (l:=s.used) (x:={jW:=c.ap.ID,cI:=(0:Int),n:=(0:Int)})
     have hs:=GA (k:=uk) (l:=s.used) (x:={jW:=c.ap.ID,cI:=(0:Int),n:=(0:Int)}) (y:=X) (by rw [hXk]; rfl)
     refine ⟨mZ uk s.used {jW:=c.ap.ID,cI:=(0:Int),n:=(0:Int)},{jW:=c.ap.ID,cI:=(0:Int),n:=(0:Int)},?_,?_,rfl,hs⟩
     ·simp only [Bool.not_false,cond_true,fa]
      rw [dl (wj (x:=({jW:=c.ap.ID,cI:=(0:Int),n:=(0:Int)}:da)) c.ap.ID omA),Option.bind_some]
      rw [← hm1]; rfl
     ·rw [wO]; exact hp
   obtain ⟨U1,x,k1,k2,k3,k4⟩:=hused
   obtain ⟨O,hO⟩:∃ O,O=s.out.filter fun y=>y.To==c.ap.To:=⟨_,rfl⟩
   have l1:bA (jD ({s with last:=some {l:=T},used:=U1}:ai) c) ((0:Int),[])=some O:=by
    rw [hO]
    refine DH (l:=s.out) c.ap.To omA (fun i hi acc ha=>?_) (fun acc=>?_)
    ·simp only [jD,gh hi,cond_true,bD hi,Option.bind_some]
    ·simp [jD,bG]
   have l2:bA (gR m c) ([],(0:Int))=some O:=by
    rw [hO,← x1]
    have hol:m.Out.length≤1000:=by rw [x1]; omega
    have := nZ (body:=gR m c) m.Out (fun y=>y.To==c.ap.To) (fun y=>y) (fun out=>out) (fun i hi out ho=>by
     simp only [gR,gh hi,cond_true,bD hi,Option.bind_some,dl (gC (x:=m.Out[i]) (show out.length≤1073741823 by omega)),cm (show i≤4294967295 by omega)]
     cases m.Out[i].To==c.ap.To <;> rfl) (fun out _=>by simp [gR,bG])
    rw [List.map_id'] at this
    exact this
   have f1:=Me w (n:=s.wide) h.wb
   have f2:=GH w (n:=m.zJ) (by rw [← h.wd]; exact h.wb)
   rw [← h.wd] at f2
   obtain ⟨W,hW⟩:∃ W:bK,W={w with Val:=if w.Del then [] else zt s.wide.toNat w.Val}:=⟨_,rfl⟩
   rw [← hW] at f1 f2
   have hrl:=List.length_filter_le (fun u:eO=>u.ap !=c.ap.ID) m.pT
   have hol:m.Out.length≤1000:=by rw [x1]; omega
   rw [k1]
   simp only [cond_true,Option.bind_some,nE,k2,g0,l1,l2,f1,← h.wd,f2,hwn,Int.toNat_natCast,List.set_set]
   rw [dl (gC omA),dl (gC omA),dl (gC omA)]
   simp only [Option.bind_some,nA,mK]
   rw [show ({jW:=x.jW,cI:=c.ae,n:=n0+1}:da)=X by rw [hX,k3],k4]
   have hpl:=wS u1 X
   refine ⟨_,_,_,_,rfl,rfl,jB hok,⟨gg.wd,gg.lk,fun y hy=>by cases hy; exact r7,gg.bk,gg.op,fun y hy=>?_,fun y hy=>?_⟩,rfl,wb,ep,e1,e2,a,b,⟨T,rfl,r1,r2,r3,r4,r6⟩,dd,o,⟨by show m.Out++_=s.out++_; rw [x1],by show (s.out++_).length≤_; rw [List.length_append,List.length_singleton]; omega,fun y hy=>?_⟩,⟨tH u1 X,by show (mZ uk s.used X).length≤_; omega,?_,fun y hy=>?_⟩⟩
   ·rcases List.mem_append.1 hy with hy | hy
    ·exact gg.ou y hy
    ·rw [List.mem_singleton.1 hy]
     have hcw:cf w.At=w.At:=by
      rw [hw] at n1
      exact congrArg bK.At (List.cons.inj n1).1
     refine ⟨grl.2.2.1,Ej _,grl.1,gep,?_,?_,?_⟩
     ·show cf W.At=W.At
      rw [hW]; exact hcw
     ·show W.Val.length≤256
      rw [hW,gg.wd]
      cases w.Del <;> simp [zt]
     ·show U8s W.Val
      rw [hW]
      cases w.Del with
      | true=>exact ia
      | false=>exact Ks _ gw1.2.2
   ·rcases (lx u1 X y).1 hy with rfl | ⟨h1,_⟩
    ·rw [hX]; exact ⟨grl.1,gep⟩
    ·exact gg.us y h1
   ·rcases List.mem_append.1 hy with hy | hy
    ·exact x3 y hy
    ·rw [List.mem_singleton.1 hy]
     show isF W.At
     rw [hW]; exact gw1.1
   ·show ((mZ uk s.used X).map cu).Perm (m.pT.filter (fun u=>u.ap !=c.ap.ID)++[{ap:=c.ap.ID,ae:=c.ae,N:=n0+1}])
    refine ((sl u1 X).map cu).trans ?_
    rw [List.map_cons]
    have hf:((s.used.filter fun y=>uk y !=uk X).map cu).Perm (m.pT.filter fun u=>u.ap !=c.ap.ID):=by
     have := u3.filter (fun u=>u.ap !=c.ap.ID)
     rw [List.filter_map] at this
     rw [hX]
     exact this
    rw [show cu X={ap:=c.ap.ID,ae:=c.ae,N:=n0+1} by rw [hX]; rfl]
    exact (hf.cons _).trans (List.perm_append_comm (l₁:=[_]))
   ·rcases (lx u1 X y).1 hy with rfl | ⟨h1,_⟩
    ·rw [hX]; exact ⟨by show 0≤n0+1; omega,by show n0+1≤((k+1:Nat):Int); omega⟩
    ·have := u4 y h1; omega
 ·have b0:(vc t c.ID !=(0:Int))=true:=by simpa using hz
  rw [b0,if_neg hz]
  simp only [cond_true,hsl]
  obtain ⟨e,q1,q2,q3⟩:=BW h c1 c2 omA c4 c.ID
  rw [q1,q2]
  exact ⟨_,_,_,_,rfl,rfl,q3,h.up⟩
end Go.Proofs.YtgnkkopjkgdieaaGreat
