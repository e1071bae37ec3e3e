/- A part of the proof. -/
import Derived.Test.YtgnkkopjkgdieaaGreatLaneBytesA
import Derived.Test.YtgnkkopjkgdieaaGreatLaneBytesP3
set_option linter.unusedVariables false
set_option linter.unusedSimpArgs false
set_option maxRecDepth 100000
namespace Go.Proofs.YtgnkkopjkgdieaaGreat
open Go Go.V
theorem KY {a:List bK} (h:qT a):iC a a=some true:=by
 obtain ⟨h1,h2⟩:=h
 have e:(((a.length:Nat):Int) !=((a.length:Nat):Int))=false:=by simp
 unfold iC
 rw [e,cond_false]
 refine dW (fun i=>(i:Int)) a.length true (fun i hi=>?_) (by simp [gS,bG])
 have ha:=(h2 _ (List.getElem_mem hi)).1
 simp only [gS,gh hi,cond_true,bD hi,Option.bind_some,rA ha ha,decide_true,Bool.not_true,cond_false,BEq.rfl,sr,cm (show i≤4294967295 by omega)]
theorem Kv {a:dV} (h:wm a):oX a a=some true:=by
 simp only [oX,BEq.rfl,cond_true,rA h.1 h.1,rA h.2 h.2,decide_true,Option.bind_some]
theorem MN {a b:List bI} (hr:iF dkk a) (hp:a.Perm b) (hn:a.length≤1000) (hg:∀ d∈a,Fm d):kI a b=some true:=by
 have hl:=hp.length_eq
 have e:(((a.length:Nat):Int) !=((b.length:Nat):Int))=false:=by rw [hl]; simp
 unfold kI
 rw [e,cond_false]
 refine dW (fun i=>(i:Int)) a.length true (fun i hi=>?_) (by simp [iR,bG])
 have hai:=List.getElem_mem hi
 have gi:=hg _ hai
 have h3:bA (fG a[i] a[i]) (true,(0:Int))=some true:=by
  refine dW (body:=fG a[i] a[i]) (fun j=>(true,(j:Int))) a[i].dM.length true (fun j hj=>?_) (by simp [fG,bG])
  have := gi.2.1
  simp only [fG,gh hj,cond_true,bD hj,Option.bind_some,BEq.rfl,KY (gi.2.2 _ (List.getElem_mem hj)),cm (show j≤4294967295 by omega)]
 have key:=qW (body:=gL b a (i:Int)) (fun s=>∃ k:Nat,s.2=(k:Int)∧k≤b.length∧(s.1=true∨∀ j (hj:j<b.length),j<k→dkk b[j]≠dkk a[i])) (fun s=>(b.length - s.2).toNat) (fun r=>r=Sum.inl ((i+1:Nat):Int)) (fun s hs=>by
  obtain ⟨hh,z⟩:=s
  obtain ⟨k,hk,hkb,hor⟩:=hs
  dsimp only at hk hor
  subst hk
  by_cases hlt:k<b.length
  ·left
   have hbk:=List.getElem_mem hlt
   have hbm:=hp.mem_iff.2 hbk
   simp only [gL,gh hlt,cond_true,bD hi,bD hlt,Option.bind_some,xe gi.1 (hg _ hbm).1,cm (show k≤4294967295 by omega)]
   show ∃ s',(bif dkk a[i]==dkk b[k] then _ else _)=_∧_
   cases hq:dkk a[i]==dkk b[k] with
   | true =>
    have hab:a[i]=b[k]:=DF hr hai hbm (eq_of_beq hq)
    rw [← hab]
    simp only [BEq.rfl,cond_true,h3,Option.bind_some]
    cases hh with
    | true=>exact ⟨_,rfl,⟨k+1,by simp [cm (show k≤4294967295 by omega)],by omega,.inl rfl⟩,by simp only [cm (show k≤4294967295 by omega)]; omega⟩
    | false=>exact ⟨_,rfl,⟨k+1,by simp [cm (show k≤4294967295 by omega)],by omega,.inl rfl⟩,by simp only [cm (show k≤4294967295 by omega)]; omega⟩
   | false =>
    have hne:dkk a[i]≠dkk b[k]:=by simpa using hq
    refine ⟨_,rfl,⟨k+1,rfl,by omega,hor.imp id fun h j hj hjk=>?_⟩,by dsimp only; omega⟩
    rcases Nat.lt_or_ge j k with h1 | h1
    ·exact h j hj h1
    ·have : j=k:=by omega
     subst this; exact fun e=>hne e.symm
  ·right
   have ek:k=b.length:=by omega
   subst ek
   have hT:hh=true:=by
    rcases hor with h | h
    ·exact h
    ·obtain ⟨j,hj,ej⟩:=List.mem_iff_getElem.1 (hp.mem_iff.1 hai)
     exact absurd (by rw [ej]) (h j hj hj)
   subst hT
   exact ⟨_,by simp only [gL,zF,cond_false,Bool.not_true,cm (show i≤4294967295 by omega)]; rfl,rfl⟩) (s:=(false,(0:Int))) ⟨0,rfl,Nat.zero_le _,.inr fun j _ h=>by omega⟩
 obtain ⟨r,q1,q2⟩:=key
 subst q2
 simp only [iR,gh hi,cond_true,q1]
theorem KT {a:List dw} (hn:a.length≤1000) (h:∀ x∈a,isF x.W.At):nP a a=some true:=by
 have e:(((a.length:Nat):Int) !=((a.length:Nat):Int))=false:=by simp
 have e0:∀ x:Int,(x !=x)=false:=fun x=>by simp
 unfold nP
 rw [e,cond_false]
 refine dW (fun i=>(i:Int)) a.length true (fun i hi=>?_) (by simp [ll,bG])
 have hf:=h _ (List.getElem_mem hi)
 simp only [ll,gh hi,cond_true,bD hi,Option.bind_some,e0,cond_false,EN hf hf rfl rfl rfl,Bool.not_true,nK,cm (show i≤4294967295 by omega)]
def IF:List Nat:=[(0:Nat),(4607182418800017408:Nat),(13830554455654793216:Nat),(4612811918334230528:Nat),(9094988921128908188:Nat),(18318360957983683996:Nat),(4602678819172646912:Nat),(4613937818241073152:Nat)]
theorem Mt {k:Nat} (hk:k<8):∃ x,qJ (k:Int)=some x∧isF x:=by
 have h:∀ x∈IF,isF x:=by
  intro x hx
  have : IF.all (fun x=>decide (x<18446744073709551616))=true:=by decide
  show x<18446744073709551616
  exact of_decide_eq_true (List.all_eq_true.1 this x hx)
 have hm:Int.tmod (k:Int) (8:Int)=(k:Int):=by rw [Int.tmod_eq_emod_of_nonneg omA]; omega
 have hl:k<IF.length:=hk
 refine ⟨IF[k],?_,h _ (List.getElem_mem hl)⟩
 unfold qJ
 rw [hm]
 show (dC IF (k:Int)).bind _=_
 rw [bD hl]; rfl
theorem JK {s:ai} (h1:1≤s.cI) (h2:s.cI≤5) {e:Nat} (he:e<10):ic (some s) (e:Int)=some (bif decide ((e:Int)≥s.cI) then 2 else 0):=by
 have w:IntKind.u64.wrap ((IntKind.u64.wrap ((e:Int)+(1:Int)))+(8:Int))=(e:Int)+9:=by
  rw [kO,kO]; omega
 unfold ic
 dsimp only
 rw [w,decide_eq_false (show ¬ (e:Int)+9<s.cI by omega)]
 cases decide ((e:Int)≥s.cI) <;> rfl
theorem LI {l:List aw} (hn:l.length≤1000):kx (some {l:=l})=some (l.map (·.ID)):=by
 have h:=nZ (body:=jt (l.length:Int) {l:=l}) l (fun _=>true) (·.ID) (fun out=>out) (fun i hi out ho=>by
  simp only [jt,gh hi,cond_true,bD hi,Option.bind_some,dl (gC (x:=l[i].ID) (show out.length≤1073741823 by omega)),cm (show i≤4294967295 by omega)]) (fun out _=>by simp [jt,bG])
 rw [List.filter_eq_self.2 (fun _ _=>rfl)] at h
 simp only [kx,LC,Option.bind_some,h]
theorem KV {k:Nat} {s:ai} {m:aq} (h:LP k s m) (hk:k≤100):tQ (some s) m=some true:=by
 obtain ⟨l,b1,b2,b3,b4⟩:=h.lk
 obtain ⟨rows,a1,a2⟩:=h.st
 obtain ⟨t,c1,c2,c3,c4,c5,c6⟩:=h.la
 obtain ⟨b,d1,d2,d3,d4⟩:=h.bk
 obtain ⟨o1,o2,o3,o4⟩:=h.op
 obtain ⟨x1,x2,x3⟩:=h.ou
 have he:=h.ep
 have he1:=h.e1
 have he2:=h.e2
 have hgH:∀ y∈m.H,iM y:=fun y hy=>b2.2.2 y (b4.mem_iff.2 hy)
 have hHl:m.H.length=l.length:=b4.length_eq.symm
 have q1:=La b1 omA
 have q2:=Lv (m:=m) omA
 rw [AL b4,he] at q1
 have e0:∀ x:Int,(x !=x)=false:=fun x=>by simp
 have hop:nT (some s)=some s.open_:=by
  show (eH s.open_).bind _=_
  have : eH s.open_=some s.open_:=dl (room_le lnA)
  rw [this]; rfl
 have hsd:=MN o1 o3 omA o4
 have hho:lB (some s)=some (l.map (·.ID)):=by
  show (kx s.ft).bind _=_
  rw [b1,LI omA]; rfl
 have hl:(l.map (·.ID)).length=l.length:=List.length_map _
 -- the holds
 have L1:bA (mD (l.map (·.ID)) (some s) m) (0:Int)=some (Sum.inl ()):=by
  have := dW (body:=mD (l.map (·.ID)) (some s) m) (fun i=>(i:Int)) l.length (Sum.inl ():Unit ⊕ Bool) (fun i hi=>by
   have g:=b2.2.2 _ (List.getElem_mem hi)
   have hi':i<(l.map (·.ID)).length:=by rw [hl]; exact hi
   have e0:(l.map (·.ID))[i]=l[i].ID:=List.getElem_map _
   have e1:jK kid (idk l[i].ID) l=some l[i]:=(nk b2.1).2 ⟨List.getElem_mem hi,rfl⟩
   have e2:m.H.find? (fun z=>kid z==idk l[i].ID)=some l[i]:=by rw [zK b2.1 b4]; exact e1
   have hh:nM (some s) l[i].ID=some (l[i],true):=by
    show (jj s.ft l[i].ID).bind _=_
    rw [b1,get_eq b2 g.id,e1]; rfl
   have hr:=CF (m:=m.H) omA hgH g.id
   rw [e2] at hr
   simp only [mD,gh hi',cond_true,bD hi',e0,Option.bind_some,hh,hr,sC,Bool.not_true,cond_false]
   rw [show ({ID:=({ab:=l[i].ID.ab,Seq:=l[i].ID.Seq}:cy),ae:=l[i].ae,dO:=l[i].dO,aX:=l[i].aX,dD:=l[i].dD,Data:=l[i].Data}:aw)=l[i] from rfl,Cc g g,KN,Option.bind_some]
   rw [cm (show i≤4294967295 by omega)]; rfl) (by
   have : decide (((l.length:Nat):Int)<(((l.map (·.ID)).length:Nat):Int))=false:=by rw [hl]; simp
   simp only [mD,this,cond_false]; rfl)
  exact this
 -- what stands at the numbers
 have L4:bA (nY (some s) m) (0:Int)=some (Sum.inl ()):=by
  refine dW (body:=nY (some s) m) (fun i=>(i:Int)) 8 (Sum.inl ():Unit ⊕ Bool) (fun i hi=>?_) rfl
  obtain ⟨x,n1,n2⟩:=Mt hi
  obtain ⟨o,_,g1,g2⟩:=uU a2 omA n2 18446744073709551615
  have hnow:oW (some s) x=some (xW o):=by
   show (fx s.store x 18446744073709551615).bind _=_
   rw [a1,g1]; rfl
  have ed:decide ((i:Int)<(8:Int))=true:=decide_eq_true omA
  have L6:bA (mE (i:Int) (some s) m) (0:Int)=some (Sum.inl ((i+1:Nat):Int)):=by
   refine dW (body:=mE (i:Int) (some s) m) (fun e=>(e:Int)) 6 (Sum.inl ((i+1:Nat):Int):Int ⊕ (Unit ⊕ Bool)) (fun e hee=>?_) ?_
   ·obtain ⟨o',_,g3,g4⟩:=uU a2 omA n2 (e:Int)
    have ed2:decide ((e:Int)<(6:Int))=true:=decide_eq_true omA
    have wu:IntKind.u64.wrap ((e:Int)+(1:Int))=((e+1:Nat):Int):=by rw [kO]; omega
    have w9:IntKind.u64.wrap ((e:Int)+(9:Int))=(e:Int)+9:=by rw [kO]; omega
    have d9:decide ((e:Int)+9<m.ae)=false:=decide_eq_false omA
    have ht:=JK he1 he2 (show e<10 by omega)
    rw [he] at ht
    simp only [mE,ed2,cond_true,n1,Option.bind_some,w9,d9,cond_false]
    have hget:oU (some s) x (e:Int)=some (bif decide ((e:Int)≥m.ae) then ({Has:=false,Val:=[]},2) else (xW o',0)):=by
     show (ic (some s) (e:Int)).bind _=_
     rw [ht,Option.bind_some]
     cases decide ((e:Int)≥m.ae) with
     | true=>rfl
     | false =>
      show (fx s.store x (e:Int)).bind _=_
      rw [a1,g3]; rfl
    rw [hget,Option.bind_some]
    cases decide ((e:Int)≥m.ae) with
    | true =>
     simp only [cond_true,Option.bind_some,pY,e0,cond_false,show ((2:Int)==(0:Int))=false from rfl,pZ,wu]
    | false =>
     simp only [cond_false,Option.bind_some,pY,e0,BEq.rfl,cond_true,n1,g4,FP,Bool.not_true,pZ,wu]
   ·have ed2:decide (((6:Nat):Int)<(6:Int))=false:=by decide
    simp only [mE,ed2,cond_false,cm (show i≤4294967295 by omega)]; rfl
  simp only [nY,ed,cond_true,n1,Option.bind_some,hnow,g2,FP,Bool.not_true,ss,cond_false,L6]
 -- labels,sessions,rules
 have L9:bA (ox (some s) m) (0:Int)=some true:=by
  refine dW (body:=ox (some s) m) (fun i=>(i:Int)) 4 true (fun i hi=>?_) rfl
  have ed:decide ((i:Int)<(4:Int))=true:=decide_eq_true omA
  have wu:IntKind.u64.wrap (i:Int)=(i:Int):=by rw [jV] <;> omega
  have hout:oO (some s) (i:Int)=some (s.out.filter fun y=>y.To==(i:Int)):=by
   show bA (jY s (i:Int)) ((0:Int),[])=_
   refine DH (l:=s.out) (i:Int) omA (fun j hj acc ha=>?_) (fun acc=>?_)
   ·simp only [jY,gh hj,cond_true,bD hj,Option.bind_some]
   ·simp [jY,bG]
  have hto:rj m (i:Int)=some (s.out.filter fun y=>y.To==(i:Int)):=by
   rw [← x1]
   have hol:m.Out.length≤1000:=by rw [x1]; omega
   have := nZ (body:=ka m (i:Int)) m.Out (fun y=>y.To==(i:Int)) (fun y=>y) (fun out=>out) (fun j hj out ho=>by
    simp only [ka,gh hj,cond_true,bD hj,Option.bind_some,dl (gC (x:=m.Out[j]) (show out.length≤1073741823 by omega)),cm (show j≤4294967295 by omega)]
    cases m.Out[j].To==(i:Int) <;> rfl) (fun out _=>by simp [ka,bG])
   rw [List.map_id'] at this
   exact this
  have hfl:=List.length_filter_le (fun y:dw=>y.To==(i:Int)) s.out
  have hsi:=KT (a:=s.out.filter fun y=>y.To==(i:Int)) omA (fun x hx=>x3 x (List.mem_filter.1 hx).1)
  have hla:nV (some s) (i:Int)=some (eR (i:Int) t):=by
   show (fH s.last (i:Int)).bind _=_
   rw [c1,BU c2 omA]; rfl
  obtain ⟨a,ha⟩:∃ a,a=(match ij (i:Int) t with | some x=>an x | none=>dfl (i:Int)):=⟨_,rfl⟩
  have hrl:kr m.A (i:Int)=some a:=by
   have := AY c2 c4 omA (i:Int)
   rw [this,ha]
   cases ij (i:Int) t <;> rfl
  have hseq:a.Seq=eR (i:Int) t:=by rw [ha]; unfold eR; cases ij (i:Int) t <;> rfl
  have hans:mr (some s) {ab:=(i:Int),Seq:=a.Seq}=some (match ij (i:Int) t with | some x=>(x.r,0) | none=>(ct,2)):=by
   show (iO s.last (i:Int) a.Seq).bind _=_
   rw [c1,IW c2 omA,Option.bind_some,ha]
   cases ij (i:Int) t with
   | none=>rfl
   | some x =>
    show some ((if x.seq<x.seq then (ct,(2:Int)) else if x.seq>x.seq then (ct,(10:Int)) else (x.r,(0:Int))))=some (x.r,(0:Int))
    rw [if_neg (Int.lt_irrefl x.seq),if_neg (Int.lt_irrefl x.seq)]
  have L11:bA (li (some s) (i:Int) m) (0:Int)=some (Sum.inl ((i+1:Nat):Int)):=by
   refine dW (body:=li (some s) (i:Int) m) (fun e=>(e:Int)) 4 (Sum.inl ((i+1:Nat):Int):Int ⊕ Bool) (fun e hee=>?_) ?_
   ·have ed2:decide ((e:Int)<(4:Int))=true:=decide_eq_true omA
    have wu2:IntKind.u64.wrap ((e:Int)+(1:Int))=((e+1:Nat):Int):=by rw [kO]; omega
    have ht:=JK he1 he2 (show e<10 by omega)
    rw [he] at ht
    have r1:=KA b (i:Int) (e:Int) omA
    have r2:=ET b.l (i:Int) (e:Int) omA
    rw [← d2] at r2
    have r3:=Hw d4 (rD (i:Int) (e:Int))
    generalize yj (nN (rD (i:Int) (e:Int)) b.l)=R at r1 r2 r3
    obtain ⟨R1,R2⟩:=R
    have hru:nW (some s) (i:Int) (e:Int)=some (bif decide ((e:Int)≥m.ae) then (dY,2) else bif !R2 then (dY,12) else (R1,0)):=by
     show hQ ((ic (some s) (e:Int)).bind _) (jF s (i:Int) (e:Int))=_
     rw [ht,Option.bind_some]
     cases decide ((e:Int)≥m.ae) with
     | true=>rfl
     | false =>
      show jF s (i:Int) (e:Int) ()=_
      unfold jF
      rw [d1,r1,Option.bind_some]
      cases R2 <;> rfl
    simp only [li,ed2,cond_true,wu,hru,r2,Option.bind_some]
    cases hd:decide ((e:Int)≥m.ae) with
    | true =>
     cases R2 <;> simp only [Bool.not_true,Bool.not_false,cond_true,cond_false,Option.bind_some,nc,hd,mY,e0,show ((2:Int)==(0:Int))=false from rfl,wu2]
    | false =>
     cases R2 with
     | true=>simp only [Bool.not_true,Bool.not_false,cond_true,cond_false,Option.bind_some,nc,hd,mY,e0,BEq.rfl,Kv r3,wu2]
     | false=>simp only [Bool.not_true,Bool.not_false,cond_true,cond_false,Option.bind_some,nc,hd,mY,e0,show ((12:Int)==(0:Int))=false from rfl,wu2]
   ·have ed2:decide (((4:Nat):Int)<(4:Int))=false:=by decide
    simp only [li,ed2,cond_false,cm (show i≤4294967295 by omega)]; rfl
  simp only [ox,ed,cond_true,hout,hto,hsi,Option.bind_some,Bool.not_true,cond_false,wu,hla,hrl,hseq,e0]
  rw [← hseq,hans,Option.bind_some]
  have hj:qZ (some s) (i:Int) m ()=some (Sum.inl ((i+1:Nat):Int)):=L11
  cases hlk:ij (i:Int) t with
  | none =>
   have hs0:a.Seq=0:=by rw [ha,hlk]; rfl
   rw [hs0]
   exact hj
  | some x =>
   have hx:=c5 x ((lY c2).1 hlk).1
   have hs0:a.Seq=x.seq:=by rw [ha,hlk]; rfl
   have hR:a.R=x.r:=by rw [ha,hlk]; rfl
   have dp:decide (a.Seq>(0:Int))=true:=decide_eq_true (by rw [hs0]; exact hx.2)
   simp only [dp,cond_true,e0,cond_false,hR,yl hx.1,Option.bind_some,Bool.not_true]
   exact hj
 unfold tQ
 rw [show kX (some s)=some s.cI from rfl,Option.bind_some,he,e0,cond_false,q1,q2]
 simp only [Option.bind_some,BEq.rfl,Bool.not_true,cond_false,hop,hsd,hho,hl,hHl,e0,L1]
 show qf (some s) m ()=_
 unfold qf
 rw [L4]
 exact L9
def tv (d:bI):aG:={d with Kind:=(4:Int),Index:=(0:Int),E:=(0:Int),br:=dX,cw:=[],R:={E:=(0:Int),ae:=(0:Int),Index:=d.Index,dT:=[],aX:=[]},ap:=dY,On:=false}
def yR (d:bI):List Int:=leB 1 (un 4)++(leB 8 d.ID.ab.toNat++(leB 8 d.ID.Seq.toNat++(leB 8 d.ae.toNat++(leB 2 d.bY.toNat++(leB 4 d.dM.length++((d.dM.map xU).flatten++uE (tv d).R))))))
theorem Dk {d:bI} (h:Fg d):td (tv d).R:=⟨u0 1,u0 8,h.2.1,ia,ia,Nat.zero_le _,Nat.zero_le _⟩
theorem BM {d:bI} (g:Fm d) (h:Fg d):∀ x∈d.dM,BQ x:=fun x hx=>⟨h.2.2.2.2.1 x hx,g.2.2 x hx⟩
theorem yS {d:bI} (g:Fm d) (h:Fg d):(yR d).length≤1000000:=by
 have a3:=AO (Dk h)
 have a4:=eV (l:=d.dM) (e:=xU) (m:=10100) fun x hx=>by
  have := DB (g.2.2 x hx)
  simp only [xU,List.length_append,dA]; omega
 have := g.2.1
 simp only [yR,List.length_append,dA]; omega
theorem EF {d:bI} (g:Fm d) (h:Fg d):U8s (yR d):=U8s.le.app (U8s.le.app (U8s.le.app (U8s.le.app (U8s.le.app (U8s.le.app ((U8s.flat fun x hx=>(RD.part (BM g h x hx)).1).app (RD.yW (Dk h)).1))))))
theorem FO {d:bI} (g:Fm d) (h:Fg d):nh (tv d)=some (yR d):=by
 have hl:=yS g h
 have hp:([]:List Int).length+(yR d).length≤1000000000:=by rw [List.length_nil]; omega
 have hn:=g.2.1
 unfold yR at hp
 have e:nh (tv d)=(ax {p:=[]} (IntKind.u64.wrap 4) (1:Int)).bind fun t489=>(((ax t489 d.ID.ab (8:Int)).bind fun t564=>((ax t564 d.ID.Seq (8:Int)).bind fun t569=>(some t569))).bind fun z574=>((ax z574 d.ae (8:Int)).bind fun t579=>((ax t579 d.bY (2:Int)).bind fun t584=>((ax t584 (IntKind.u64.wrap (d.dM.length:Int)) (4:Int)).bind fun t589=>(((bA (iS (tv d)) (t589,(0:Int)))).bind (ml (tv d))))))):=rfl
 obtain ⟨k0,hp⟩:=WR.step (WR.u1 4) hp
 obtain ⟨k1,hp⟩:=WR.step (WR.n8 g.1.1.1) hp
 obtain ⟨k2,hp⟩:=WR.step (WR.n8 g.1.2.1) hp
 obtain ⟨k3,hp⟩:=WR.step (WR.n8 h.1.1) hp
 obtain ⟨k4,hp⟩:=WR.step (WR.n2 h.2.2.2.1.1) hp
 obtain ⟨k5,hp⟩:=WR.step (WR.cnt d.dM.length omA) hp
 have hloop:WR (fun w=>bA (iS (tv d)) (w,(0:Int))) (d.dM.map xU).flatten:=by
  refine WR.AR _ lnA (fun i hi=>?_) (fun w=>?_)
  ·rw [List.length_map] at hi
   have hi':i<(tv d).dM.length:=hi
   refine ⟨_,by rw [List.getElem_map]; exact (WR.u1 _).bind (EP (g.2.2 _ (List.getElem_mem hi)).ok),fun w=>?_⟩
   simp only [iS,gh hi',cond_true,bD hi',Option.bind_some,Option.bind_assoc]
   rfl
  ·simp [iS,bG,tv]
 obtain ⟨k6,hp⟩:=WR.step hloop hp
 have k7:=Cj (Dk h).ok _ hp
 rw [e]
 simp only [k0,k1,k2,k3,k4,k5,k6,Option.bind_some,ml,k7,dE]
 simp only [yR,List.append_assoc,List.nil_append]
theorem Ke {d:bI} (g:Fm d) (h:Fg d):oP (yR d)=some (tv d,0):=by
 have hl:(yR d).length≤1000000000:=by have:=yS g h; omega
 have hl0:=hl
 have hu:=EF g h
 have henc:=FO g h
 have hn:=g.2.1
 have wk:IntKind.u8.wrap 4=4:=by decide
 have e0:jb (yR d)=some {p:=yR d,bad:=false}:=rfl
 have hd:yR d=leB 1 (un 4)++(leB 8 d.ID.ab.toNat++(leB 8 d.ID.Seq.toNat++(leB 8 d.ae.toNat++(leB 2 d.bY.toNat++(leB 4 d.dM.length++((d.dM.map xU).flatten++uE (tv d).R)))))):=rfl
 rw [hd] at hl hu
 obtain ⟨k0,hu,hl⟩:=RD.step (RD.u1 (v:=4) ⟨by decide,by decide⟩) hu hl
 rw [← hd] at k0
 obtain ⟨k1,hu,hl⟩:=RD.step (RD.n8 g.1.1) hu hl
 obtain ⟨k2,hu,hl⟩:=RD.step (RD.n8 g.1.2) hu hl
 obtain ⟨k3,hu,hl⟩:=RD.step (RD.n8 h.1) hu hl
 obtain ⟨k4,hu,hl⟩:=RD.step (RD.n2 h.2.2.2.1) hu hl
 obtain ⟨k5,hu,hl⟩:=RD.step (RD.cnt (a:=8) d.dM.length omA deA) hu hl
 have k6:=RD.loop (body:=fZ ((d.dM.length:Int),{p:=(d.dM.map xU).flatten++uE (tv d).R,bad:=false})) (fun r acc i=>(acc,r,i)) (fun r acc=>(r,acc)) d.dM xU vQ omA (fun x hx=>RD.part (BM g h x hx)) (fun r acc i hi=>AX _ r acc i hi) (fun r acc=>Cf _ r acc _ (by dsimp only; omega)) (uE (tv d).R) hu.tail (by rw [← List.length_append]; exact hl)
 rw [h.2.2.2.2.2] at k6
 have k7:=(RD.yW (Dk h)).2 [] U8s.nil (by rw [List.length_append] at hl; rw [List.length_nil]; omega)
 rw [List.append_nil,show tc (tv d).R=(tv d).R from rfl] at k7
 have hc:({d with Kind:=(4:Int),ID:=({ab:=d.ID.ab,Seq:=d.ID.Seq}:cy),Index:=(0:Int),E:=(0:Int),br:=dX,cw:=[],R:=(tv d).R,ap:=dY,On:=false}:aG)=tv d:=rfl
 unfold oP
 simp only [e0,Option.bind_some,k0,wk,show ((4:Int)==(1:Int))=false from rfl,show ((4:Int)==(2:Int))=false from rfl,show ((4:Int)==(3:Int))=false from rfl,show ((4:Int)==(4:Int))=true from rfl,cond_true,cond_false,k1,k2,k3,k4,k5,k6,oE,k7,hc]
 rw [nm]
 simp only [oF,eK,eS,Option.bind_some,Bool.not_false,cond_true,henc,yT hl0]
 rfl
def xR (x:dw):List Int:=leB 1 (un x.To)++(leB 8 x.N.toNat++(leB 8 x.ap.toNat++(leB 8 x.ae.toNat++(rkB x.W.At++(flB x.W.Del++byB x.W.Val)))))
def ud (u:da):List Int:=leB 8 u.jW.toNat++(leB 8 u.cI.toNat++leB 4 (un u.n))
def dB (d:bI):List Int:=leB 1 (un d.E)++byB (yR d)
theorem Fa {k:Nat} {s:ai} {m:aq} (h:LP k s m) (hk:k≤25):∃ p,gU (some s)=some p∧sD p=some (s,0):=by
 obtain ⟨rows,a1,a2⟩:=h.st
 obtain ⟨l,b1,b2,b3,b4⟩:=h.lk
 obtain ⟨t,c1,c2,c3,c4,c5,c6⟩:=h.la
 obtain ⟨b,d1,d2,d3,d4⟩:=h.bk
 obtain ⟨o1,o2,o3,o4⟩:=h.op
 obtain ⟨x1,x2,x3⟩:=h.ou
 obtain ⟨u1,u2,u3,u4⟩:=h.us
 have g:=h.gp
 have gep:isU 8 s.cI:=⟨by have:=h.e1; omega,by have:=h.e2; rw [pw8]; omega⟩
 have gwd:isU 4 s.wide:=by rw [g.wd]; exact ⟨by decide,by decide⟩
 have gus:∀ u∈s.used,isU 4 u.n:=fun u hu=>⟨(u4 u hu).1,by have:=(u4 u hu).2; rw [pw4]; omega⟩
 have gt:∀ x∈t,xQ x:=g.la _ c1
 have gb:=g.bk _ d1
 have gl:∀ x∈l,nf x=x:=g.lk _ b1
 have s1:=Kz a2 omA
 have s2:=Dw b2.2.2 b2.2.1
 have s3:=FN gt omA
 have s4:=DC gb omA
 have t1:=Kn a2 omA
 have t2:=Jr b2 omA gl
 have t3:=KL c2 gt c5 omA
 have t4:=Jf gb omA
 have n1:=CR a2 omA
 have n2:=Ex b2.2.2 omA
 have n3:=Cz gt omA
 have n4:=Ap (l:=b.l) omA
 have m1:U8s (kK rB rows):=zf fun x hx=>FY a2 hx
 have m2:U8s (kK pW l):=zf fun x hx=>(RD.hold (b2.2.2 x hx)).1
 have m3:U8s (kK rS t):=zf fun x hx=>Gc (gt x hx)
 have m4:U8s (kK sN b.l):=zf fun x hx=>FL x
 generalize kK rB rows=S1 at s1 t1 n1 m1
 generalize kK pW l=S2 at s2 t2 n2 m2
 generalize kK rS t=S3 at s3 t3 n3 m3
 generalize kK sN b.l=S4 at s4 t4 n4 m4
 have w1:∀ x∈s.open_,(dB x).length≤1000005:=fun x hx=>by
  have := yS (o4 x hx) (g.op x hx)
  simp only [dB,byB,List.length_append,dA]; omega
 have w2:∀ x∈s.out,(xR x).length≤300:=fun x hx=>by
  have := (g.ou x hx).2.2.2.2.2.1
  simp only [xR,byB,flB,List.length_append,dA,vA]; omega
 have w3:∀ x∈s.used,(ud x).length≤20:=fun x hx=>by simp only [ud,List.length_append,dA]; omega
 have v1:=eV w1
 have v2:=eV w2
 have v3:=eV w3
 have z1:=xf dB (fun x=>by simp only [dB,List.length_append,dA]; omega) s.open_
 have z2:=xf xR (fun x=>by simp only [xR,List.length_append,dA]; omega) s.out
 have z3:=xf ud (fun x=>by simp only [ud,List.length_append,dA]; omega) s.used
 obtain ⟨P,hP⟩:∃ P,P=leB 4 (un s.wide)++(leB 8 s.cI.toNat++(byB S1++(byB S2++(byB S3++(byB S4++(leB 4 s.open_.length++((s.open_.map dB).flatten++(leB 4 s.out.length++((s.out.map xR).flatten++(leB 4 s.used.length++(s.used.map ud).flatten)))))))))):=⟨_,rfl⟩
 have hlen:P.length≤100000000:=by
  rw [hP]
  simp only [byB,List.length_append,dA]; omega
 have hU:U8s P:=by
  rw [hP]
  refine U8s.le.app (U8s.le.app ((U8s.le.app m1).app ((U8s.le.app m2).app ((U8s.le.app m3).app ((U8s.le.app m4).app (U8s.le.app ((U8s.flat fun x hx=>?_).app (U8s.le.app ((U8s.flat fun x hx=>?_).app (U8s.le.app (U8s.flat fun x hx=>?_)))))))))))
  ·exact U8s.le.app (U8s.le.app (EF (o4 x hx) (g.op x hx)))
  ·exact U8s.le.app (U8s.le.app (U8s.le.app (U8s.le.app (U8s.app U8s.le (U8s.app U8s.le (U8s.le.app (g.ou x hx).2.2.2.2.2.2))))))
  ·exact U8s.le.app (U8s.le.app U8s.le)
 have henc:gU (some s)=some P:=by
  have hp:([]:List Int).length+P.length≤1000000000:=by rw [List.length_nil]; omega
  rw [hP] at hp
  obtain ⟨k1,hp⟩:=WR.step (WR.u4 s.wide) hp
  obtain ⟨k2,hp⟩:=WR.step (WR.n8 gep.1) hp
  obtain ⟨k3,hp⟩:=WR.step (WR.bytes S1 omA) hp
  obtain ⟨k4,hp⟩:=WR.step (WR.bytes S2 omA) hp
  obtain ⟨k5,hp⟩:=WR.step (WR.bytes S3 omA) hp
  obtain ⟨k6,hp⟩:=WR.step (WR.bytes S4 omA) hp
  obtain ⟨k7,hp⟩:=WR.step (WR.cnt s.open_.length omA) hp
  obtain ⟨k8,hp⟩:=WR.step (f:=fun w=>bA (iB s) (w,(0:Int))) (WR.AR (s.open_.map dB) lnA (fun i hi=>by
   rw [List.length_map] at hi
   have hm:=List.getElem_mem hi
   have ce:=FO (o4 _ hm) (g.op _ hm)
   unfold tv at ce
   exact ⟨_,by rw [List.getElem_map]; exact (WR.u1 _).bind (WR.bytes _ (by have:=yS (o4 _ hm) (g.op _ hm); omega)),fun w=>by simp only [iB,gh hi,cond_true,bD hi,Option.bind_some,Option.bind_assoc,ce]⟩) (fun w=>by simp [iB,bG])) hp
  obtain ⟨k9,hp⟩:=WR.step (WR.cnt s.out.length omA) hp
  obtain ⟨k10,hp⟩:=WR.step (f:=fun w=>bA (iG s) (w,(0:Int))) (WR.AR (s.out.map xR) lnA (fun i hi=>by
   rw [List.length_map] at hi
   have hm:=List.getElem_mem hi
   obtain ⟨g1,g2,g3,g4,g5,g6,g7⟩:=g.ou _ hm
   exact ⟨_,by rw [List.getElem_map]; exact (WR.u1 _).bind ((WR.n8 g2.1).bind ((WR.n8 g3.1).bind ((WR.n8 g4.1).bind ((WR.eW (x3 _ hm)).bind ((WR.flag _).bind (WR.bytes _ omA)))))),fun w=>by simp only [iG,gh hi,cond_true,bD hi,Option.bind_some,Option.bind_assoc]⟩) (fun w=>by simp [iG,bG])) hp
  obtain ⟨k11,hp⟩:=WR.step (WR.cnt s.used.length omA) hp
  have k12:=WR.loop (body:=iH s) (fun w=>w.p) (s.used.map ud) lnA (fun i hi=>by
   rw [List.length_map] at hi
   have hm:=List.getElem_mem hi
   obtain ⟨g1,g2⟩:=g.us _ hm
   exact ⟨_,by rw [List.getElem_map]; exact (WR.n8 g1.1).bind ((WR.n8 g2.1).bind (WR.u4 _)),fun w=>by simp only [iH,gh hi,cond_true,bD hi,Option.bind_some,Option.bind_assoc]⟩) (fun w=>by simp [iH,bG,dE]) _ hp
  simp only [gU,a1,b1,c1,d1,s1,s2,s3,s4,k1,k2,k3,k4,k5,k6,k7,k8,k9,k10,k11,k12,Option.bind_some,lT,me]
  rw [hP]
  simp only [List.append_assoc,List.nil_append]
 refine ⟨P,henc,?_⟩
 have hl:P.length≤1000000000:=by omega
 have e0:jb P=some {p:=P,bad:=false}:=rfl
 have hL:((P.length:Nat):Int)≤100000000:=by omega
 have hsz:S1.length≤P.length∧S2.length≤P.length∧S3.length≤P.length∧S4.length≤P.length:=by
  rw [hP]
  simp only [byB,List.length_append,dA]; omega
 have hu:=hU
 have hl':=hl
 rw [hP] at hu hl'
 obtain ⟨k1,hu,hl'⟩:=RD.step (RD.u4 gwd) hu hl'
 rw [← hP] at k1
 obtain ⟨k2,hu,hl'⟩:=RD.step (RD.n8 gep) hu hl'
 obtain ⟨k3,hu,hl'⟩:=RD.step (RD.bytes (a:=(P.length:Int)) S1 omA hL m1) hu hl'
 obtain ⟨k4,hu,hl'⟩:=RD.step (RD.bytes (a:=(P.length:Int)) S2 omA hL m2) hu hl'
 obtain ⟨k5,hu,hl'⟩:=RD.step (RD.bytes (a:=(P.length:Int)) S3 omA hL m3) hu hl'
 obtain ⟨k6,hu,hl'⟩:=RD.step (RD.bytes (a:=(P.length:Int)) S4 omA hL m4) hu hl'
 obtain ⟨T1,hT1⟩:∃ T,T=(s.open_.map dB).flatten++(leB 4 s.out.length++((s.out.map xR).flatten++(leB 4 s.used.length++(s.used.map ud).flatten))):=⟨_,rfl⟩
 rw [← hT1] at k1 k2 k3 k4 k5 k6 hu hl'
 obtain ⟨k7,hu,hl'⟩:=RD.step (RD.cnt (a:=((leB 4 s.open_.length++T1).length:Int)) s.open_.length (by rw [hT1]; simp only [List.length_append]; omega) omA) hu hl'
 rw [hT1] at hu hl'
 obtain ⟨T2,hT2⟩:∃ T,T=(s.out.map xR).flatten++(leB 4 s.used.length++(s.used.map ud).flatten):=⟨_,rfl⟩
 rw [← hT2] at hT1 hu hl'
 have k8:=RD.range (body:=nn ((s.open_.length:Int),{p:=T1,bad:=false})) s.open_ dB (fun r i=>(r,({s with open_:=s.open_.take i,out:=[],used:=[]}:ai),(i:Int))) (Sum.inl ({p:=leB 4 s.out.length++T2,bad:=false},({s with out:=[],used:=[]}:ai))) (leB 4 s.out.length++T2) hu hl' (fun i hi q hq hql=>by
  have hm:=List.getElem_mem hi
  have gd:=g.op _ hm
  unfold dB at hq hql ⊢
  rw [List.append_assoc] at hq hql ⊢
  obtain ⟨j1,hq,hql⟩:=RD.step (RD.u1 gd.2.2.1) hq hql
  have j2:=(RD.step (RD.bytes (a:=1048576) (yR s.open_[i]) (by have:=yS (o4 _ hm) gd; omega) deA (EF (o4 _ hm) gd)) hq hql).1
  simp only [nn,gh hi,cond_true,j1,j2,Option.bind_some,Ke (o4 _ hm) gd]
  rw [show ((0:Int) !=(0:Int))=false from rfl,show ((tv s.open_[i]).Kind !=(4:Int))=false from rfl,cond_false,cond_false,dl (qI _ _ omA),cm (show i≤4294967295 by omega),wY deA gd.2.2.1]
  rw [show ({ID:=(tv s.open_[i]).ID,E:=s.open_[i].E,ae:=(tv s.open_[i]).ae,Index:=(tv s.open_[i]).R.Index,bY:=(tv s.open_[i]).bY,dM:=(tv s.open_[i]).dM}:bI)=s.open_[i] from rfl,qF hi]) (by simp only [nn,zF,cond_false,bG,Option.map_some,List.take_length])
 rw [← hT1] at k8
 have k8:bA _ (({p:=T1,bad:=false}:ag),({s with open_:=[],out:=[],used:=[]}:ai),(0:Int))=_:=k8
 obtain ⟨k9,hu,hl'⟩:=RD.step (RD.cnt (a:=((leB 4 s.out.length++T2).length:Int)) s.out.length (by rw [hT2]; simp only [List.length_append]; omega) (by have:=hl'; rw [List.length_append] at this; omega)) hu.tail (by rw [List.length_append] at hl'; omega)
 rw [hT2] at hu hl'
 have k10:=RD.range (body:=mV ((s.out.length:Int),{p:=T2,bad:=false})) s.out xR (fun r i=>(r,({s with out:=s.out.take i,used:=[]}:ai),(i:Int))) ({p:=leB 4 s.used.length++(s.used.map ud).flatten,bad:=false},({s with used:=[]}:ai)) (leB 4 s.used.length++(s.used.map ud).flatten) hu hl' (fun i hi q hq hql=>by
  have hm:=List.getElem_mem hi
  obtain ⟨g1,g2,g3,g4,g5,g6,g7⟩:=g.ou _ hm
  unfold xR at hq hql ⊢
  simp only [List.append_assoc] at hq hql ⊢
  obtain ⟨j1,hq,hql⟩:=RD.step (RD.u1 g1) hq hql
  obtain ⟨j2,hq,hql⟩:=RD.step (RD.n8 g2) hq hql
  obtain ⟨j3,hq,hql⟩:=RD.step (RD.n8 g3) hq hql
  obtain ⟨j4,hq,hql⟩:=RD.step (RD.n8 g4) hq hql
  obtain ⟨j5,hq,hql⟩:=RD.step (RD.eW (x3 _ hm)) hq hql
  obtain ⟨j6,hq,hql⟩:=RD.step (RD.flag _) hq hql
  have j7:=(RD.step (RD.bytes (a:=256) _ omA deA g7) hq hql).1
  simp only [mV,gh hi,cond_true,j1,j2,j3,j4,j5,j6,j7,Option.bind_some,xj (x3 _ hm),g5,wY deA g1]
  rw [dl (qI _ _ omA),cm (show i≤4294967295 by omega)]
  rw [show ({To:=s.out[i].To,N:=s.out[i].N,ap:=s.out[i].ap,ae:=s.out[i].ae,W:={At:=s.out[i].W.At,Del:=s.out[i].W.Del,Val:=s.out[i].W.Val}}:dw)=s.out[i] from rfl,qF hi]) (by simp only [mV,zF,cond_false,bG,Option.map_some,List.take_length])
 rw [← hT2] at k10
 have k10:bA _ (({p:=T2,bad:=false}:ag),({s with out:=[],used:=[]}:ai),(0:Int))=_:=k10
 obtain ⟨k11,hu,hl'⟩:=RD.step (RD.cnt (a:=((leB 4 s.used.length++(s.used.map ud).flatten).length:Int)) s.used.length lnA (by have:=hl'; rw [List.length_append] at this; omega)) hu.tail (by rw [List.length_append] at hl'; omega)
 have k12:=RD.range (body:=ng ((s.used.length:Int),{p:=(s.used.map ud).flatten,bad:=false})) s.used ud (fun r i=>(r,({s with used:=s.used.take i}:ai),(i:Int))) ({p:=[],bad:=false},s) [] (by rwa [List.append_nil]) (by rwa [List.append_nil]) (fun i hi q hq hql=>by
  have hm:=List.getElem_mem hi
  obtain ⟨g1,g2⟩:=g.us _ hm
  unfold ud at hq hql ⊢
  simp only [List.append_assoc] at hq hql ⊢
  obtain ⟨j1,hq,hql⟩:=RD.step (RD.n8 g1) hq hql
  obtain ⟨j2,hq,hql⟩:=RD.step (RD.n8 g2) hq hql
  have j3:=(RD.step (RD.u4 (gus _ hm)) hq hql).1
  simp only [ng,gh hi,cond_true,j1,j2,j3,Option.bind_some,wY deA (gus _ hm)]
  rw [dl (qI _ _ omA),cm (show i≤4294967295 by omega)]
  rw [show ({jW:=s.used[i].jW,cI:=s.used[i].cI,n:=s.used[i].n}:da)=s.used[i] from rfl,qF hi]) (by simp only [ng,zF,cond_false,bG,Option.map_some,List.take_length])
 rw [List.append_nil] at k12
 have k12:bA _ (({p:=(s.used.map ud).flatten,bad:=false}:ag),({s with used:=[]}:ai),(0:Int))=_:=k12
 have hw:IntKind.i64.wrap s.wide=s.wide:=wY deA gwd
 simp only [a1,b1,c1,d1] at k8 k10 k12
 unfold sD
 simp only [e0,Option.bind_some,k1,k2,k3,k4,k5,k6,t1,t2,t3,t4,hw]
 rw [show (!((0:Int)==(0:Int)&&(0:Int)==(0:Int)&&(0:Int)==(0:Int)&&(0:Int)==(0:Int)))=false from rfl,cond_false]
 simp only [Aj,Option.bind_some,k7,k8]
 rw [nm]
 simp only [qQ,Aj,Option.bind_some,k9,k10,rG,k11,k12,qX,eK,eS,Bool.not_false,cond_true,henc,yT hl]
 rfl
def uH (c:aG):Prop:=c.Kind=1→c.ae≤4
theorem TP.early:TP (fun t=>gI t) uH:=by
 refine TP.of Gj ?_
 refine TP.bind (TP.next 7) fun a ha=>?_
 dsimp only
 have ek:IntKind.u8.wrap (IntKind.i64.wrap ((1:Int)+a))=1+a:=by
  rw [wrap_i64 omA omA,wrap_u8] <;> omega
 rw [ek]
 have : a=0∨a=1∨a=2∨a=3∨a=4∨a=5∨a=6:=by omega
 rcases this with rfl | rfl | rfl | rfl | rfl | rfl | rfl
 ·refine TP.bind (TP.next 4) fun p hp=>?_
  dsimp only
  refine TP.ret (P:=uH) fun _=>?_
  show IntKind.u64.wrap (IntKind.i64.wrap ((1:Int)+p))≤4
  rw [wrap_i64 omA omA,jV] <;> omega
 ·refine TP.bind TP.hold fun h hh=>?_
  dsimp only
  exact TP.ret (P:=uH) fun h=>absurd h (show ¬ (1:Int)+1=1 by decide)
 ·refine TP.bind TP.of_ fun i hi=>?_
  dsimp only
  refine TP.bind (TP.next 3) fun e he=>?_
  dsimp only
  have hg:∃ x:Int,dC ([(0:Int),(0:Int),(8:Int)]) e=some x:=by
   have : e=0∨e=1∨e=2:=by omega
   rcases this with rfl | rfl | rfl <;> exact ⟨_,rfl⟩
  obtain ⟨x,hx⟩:=hg
  simp only [hx,Option.bind_some]
  refine TP.bind (TP.next 4) fun p hp=>?_
  dsimp only
  refine TP.bind (TP.next 20) fun q hq=>?_
  dsimp only
  refine TP.bind TP.writes fun w hw=>?_
  dsimp only
  exact TP.ret (P:=uH) fun h=>absurd h (show ¬ (1:Int)+2=1 by decide)
 ·refine TP.bind TP.of_ fun i hi=>?_
  dsimp only
  refine TP.bind (TP.next 6) fun b hb=>?_
  dsimp only
  refine TP.bind (TP.next 4) fun p hp=>?_
  dsimp only
  refine TP.bind (TP.next 4) fun q hq=>?_
  dsimp only
  refine TP.bind (TP.next 3) fun n hn=>?_
  dsimp only
  refine TP.yd (P:=fun _=>True) (body:=fh (n,rt)) (F:=fun i t=>(hY t).bind fun w=>some (({oD:=i,cw:=w.1}:dN),w.2)) (fun t acc i=>(acc,t,i)) (fun t acc=>(t,acc)) n omA hn.1 (fun j j0 j1=>?_) (fun t acc i hi=>?_) (fun t acc i hi=>?_) (fun parts p1 p2=>?_)
  ·refine TP.bind TP.writes fun w hw=>?_
   dsimp only
   exact TP.ret trivial
  ·have e:decide (i<n)=true:=by simpa using hi
   simp only [fh,e,cond_true,Option.bind_assoc,Option.bind_some]
  ·have e:decide (i<n)=false:=by simpa using hi
   simp only [fh,e,cond_false,bG,Option.map_some]
  dsimp only
  refine TP.bind TP.yW fun x hx=>?_
  dsimp only
  exact TP.ret (P:=uH) fun h=>absurd h (show ¬ (1:Int)+3=1 by decide)
 ·refine TP.bind TP.of_ fun i hi=>?_
  dsimp only
  exact TP.ret (P:=uH) fun h=>absurd h (show ¬ (1:Int)+4=1 by decide)
 ·refine TP.bind TP.jW fun r hr=>?_
  dsimp only
  refine TP.bind (TP.next 3) fun o ho=>?_
  dsimp only
  show TP (fun t=>some (({zC with Kind:=1+5,ap:=r,On:=decide (o>(0:Int))}:aG),t)) uH
  exact TP.ret (P:=uH) fun h=>absurd h (show ¬ (1:Int)+5=1 by decide)
 ·refine TP.bind TP.of_ fun i hi=>?_
  dsimp only
  refine TP.bind (TP.next 4) fun p hp=>?_
  dsimp only
  refine TP.bind TP.jW fun r hr=>?_
  dsimp only
  refine TP.bind TP.writes fun w hw=>?_
  dsimp only
  refine TP.bind TP.yW fun x hx=>?_
  dsimp only
  exact TP.ret (P:=uH) fun h=>absurd h (show ¬ (1:Int)+6=1 by decide)
theorem Jt {k:Nat} {s:ai} {m:aq} (h:LP k s m) (hk:k≤100) {c:aG} (gg:BA c) (he:uH c) {n:Int} (hn:isU 8 n):Step k s m n c:=by
 obtain ⟨g,hcc⟩:=gg
 rcases kinds g.1 with hc | hc | hc | hc | hc | hc | hc
 ·exact Fw h hk hc (he hc) n
 ·exact Hx h hk hc ⟨g.2.2.2.2.2.1,by have:=congrArg aG.br hcc; simpa [BH,hc] using this⟩ n
 ·exact Ja h hk hc g n
 ·exact Er h hk hc g hcc hn
 ·exact Em h hk hc g.2.1 n
 ·exact EO h hk hc ⟨g.2.2.2.2.2.2.2.2.2.2.2,by have:=congrArg aG.ap hcc; simpa [BH,hc] using this⟩ n
 ·exact Hz h hk hc g hcc hn
theorem Jg {a b:bU} (h:DQ a b):mX a b=some true:=by
 obtain ⟨h1,h2,h3⟩:=h
 unfold mX
 rw [h1,h2,h3]
 simp only [BEq.rfl,cond_true,Bool.and_self,Option.bind_some]
theorem Aa {a0:List Int} {a1:Int} (o0:a0.length≤maxLen∧∀ x∈a0,(Lit.int .u8 x).wf=true) (o1:(Lit.int .u8 a1).wf=true):qs a0 a1=some true:=by
 unfold qs
 simp only [JO,Option.bind_some,Bool.not_true,cond_false]
 cases h0:decide ((a0.length:Int)>(500:Int)) with
 | true=>rfl
 | false =>
 have l0:a0.length≤500:=by have:=of_decide_eq_false h0; omega
 have hN:vd 3=some {wide:=3,cI:=1,store:=some {rows:=[]},ft:=some {l:=[]},last:=some {l:=[]},book:=some {l:=[]},open_:=[],out:=[],used:=[]}:=rfl
 have hM:xm 3=some {zJ:=3,ae:=1,V:=[],H:=[],A:=[],B:=[],Open:=[],Out:=[],pT:=[]}:=rfl
 simp only [cond_false,hN,hM,Option.bind_some]
 have hLP:LP 0 {wide:=3,cI:=1,store:=some {rows:=[]},ft:=some {l:=[]},last:=some {l:=[]},book:=some {l:=[]},open_:=[],out:=[],used:=[]} {zJ:=3,ae:=1,V:=[],H:=[],A:=[],B:=[],Open:=[],Out:=[],pT:=[]} :=
  ⟨⟨rfl, fun y hy=>by cases hy; exact ia,fun y hy=>by cases hy; exact ia,fun y hy=>by cases hy; exact ia,ia,ia,ia⟩,rfl,by decide,rfl,Int.le_refl _,by show (1:Int)≤5; decide,⟨[],rfl,KZ⟩,⟨[],rfl,KJ,Nat.le_refl _,List.Perm.refl _⟩,⟨[],rfl,EL,Nat.le_refl _,List.Perm.refl _,ia,ia⟩,⟨{l:=[]},rfl,rfl,Nat.le_refl _,ia⟩,⟨tX,Nat.le_refl _,List.Perm.refl _,ia⟩,⟨rfl,Nat.le_refl _,ia⟩,⟨tX,Nat.le_refl _,List.Perm.refl _,ia⟩⟩
 have key:=qW (body:=lm a1) (fun z=>∃ (i:Nat) (s:ai),z.2.2.2=(i:Int)∧z.2.2.1=some s∧i≤25∧uh z.1∧LP i s z.2.1) (fun z=>(25 - z.2.2.2).toNat) (fun r=>∃ s m,r=Sum.inl (some s,m)∧LP 25 s m) ?_ (s:=(({L:=a0,I:=(0:Int)}:aB),_,_,(0:Int))) ⟨0,_,rfl,rfl,by omega,⟨Int.le_refl _,by show a0.length≤1000000; omega,fun x hx=>Mh.1 (o0.2 x hx)⟩,hLP⟩
 ·obtain ⟨r,q1,s,m,rfl,hL⟩:=key
  rw [q1,nm]
  simp only [nF,KV hL omA,Option.bind_some]
 ·rintro ⟨t,m,s0,j⟩ ⟨i,s,hj,hs,hi,ht,hL⟩
  dsimp only at hj hs ht hL
  subst hj hs
  by_cases hlt:i<25
  ·left
   have ed:decide ((i:Int)<(25:Int))=true:=decide_eq_true omA
   obtain ⟨c,t1,e1,hc,ht1⟩:=TP.command t ht
   obtain ⟨c',t1',e1',hc',_⟩:=TP.early t ht
   have hcc:c'=c:=by
    have e1:gI t=some (c,t1):=e1
    have e1':gI t=some (c',t1'):=e1'
    rw [e1] at e1'
    exact (Prod.mk.inj (some_inj e1')).1.symm
   rw [hcc] at hc'
   obtain ⟨e,e',s',m',q1,q2,q3,q4⟩:=Jt hL omA hc hc' (Ej ((i+1:Nat):Int))
   have e1:gI t=some (c,t1):=e1
   have hgo:lp t (i:Int) m (some s)=some (Sum.inl (t1,m',some s',((i+1:Nat):Int))):=by
    simp only [lp,e1,Option.bind_some,cm (show i≤4294967295 by omega),q1,q2,Jg q3,Bool.not_true,cond_false]
   refine ⟨(t1,m',some s',((i+1:Nat):Int)),?_,⟨i+1,s',rfl,rfl,by omega,ht1,q4⟩,by dsimp only; omega⟩
   simp only [lm,ed,cond_true]
   cases ((i:Int)==Int.tmod (IntKind.i64.wrap a1) (25:Int)) with
   | false=>rw [cond_false,nm,hgo]
   | true =>
    obtain ⟨p,p1,p2⟩:=Fa hL omA
    rw [cond_true,p1,Option.bind_some,p2,Option.bind_some]
    show hQ (some (Sum.inl (some s))) _=_
    rw [nm,hgo]
  ·right
   have : i=25:=by omega
   subst this
   exact ⟨_,rfl,s,m,rfl,hL⟩
end Go.Proofs.YtgnkkopjkgdieaaGreat
