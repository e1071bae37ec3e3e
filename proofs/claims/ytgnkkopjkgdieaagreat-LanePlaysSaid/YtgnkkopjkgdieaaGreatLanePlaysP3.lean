/- A part of the proof. -/
import Derived.Test.YtgnkkopjkgdieaaGreatLanePlaysA
import Derived.Test.YtgnkkopjkgdieaaGreatLanePlaysP2
section
set_option linter.unusedVariables false
set_option linter.unusedSimpArgs false
set_option maxRecDepth 100000
namespace Go.Proofs.YtgnkkopjkgdieaaGreat
open Go Go.V
theorem Ea {a:List bN} (h:qY a):fI a a=some true:=by
 obtain ⟨h1,h2⟩:=h
 have e:(((a.length:Nat):Int) !=((a.length:Nat):Int))=false:=by simp
 unfold fI
 rw [e,cond_false]
 refine dz (fun i=>(i:Int)) a.length true (fun i hi=>?_) (by simp [fe,bt])
 have ha:=(h2 _ (List.getElem_mem hi)).1
 simp only [fe,gW hi,cond_true,bl hi,Option.bind_some,nC ha ha,decide_true,Bool.not_true,cond_false,BEq.rfl,oc,bJ (show i≤4294967295 by omega)]
theorem DU {a:dr} (h:rD a):lH a a=some true:=by
 simp only [lH,BEq.rfl,cond_true,nC h.1 h.1,nC h.2 h.2,decide_true,Option.bind_some]
theorem FA {a b:List bA} (hr:fJ dkk a) (hp:a.Perm b) (hn:a.length≤1000) (hg:∀ d∈a,Ft d):iF a b=some true:=by
 have hl:=hp.length_eq
 have e:(((a.length:Nat):Int) !=((b.length:Nat):Int))=false:=by rw [hl]; simp
 unfold iF
 rw [e,cond_false]
 refine dz (fun i=>(i:Int)) a.length true (fun i hi=>?_) (by simp [fT,bt])
 have hai:=List.getElem_mem hi
 have gi:=hg _ hai
 have h3:br (ei a[i] a[i]) (true,(0:Int))=some true:=by
  refine dz (body:=ei a[i] a[i]) (fun j=>(true,(j:Int))) a[i].Parts.length true (fun j hj=>?_) (by simp [ei,bt])
  have := gi.2.1
  simp only [ei,gW hj,cond_true,bl hj,Option.bind_some,BEq.rfl,Ea (gi.2.2 _ (List.getElem_mem hj)),bJ (show j≤4294967295 by omega)]
 have key:=nA (body:=eY b a (i:Int)) (fun s=>∃ k:Nat,s.2=(k:Int)∧k≤b.length∧(s.1=true∨∀ j (hj:j<b.length),j<k→dkk b[j]≠dkk a[i])) (fun s=>(b.length - s.2).toNat) (fun r=>r=Sum.inl ((i+1:Nat):Int)) (fun s hs=>by
  obtain ⟨hh,z⟩:=s
  obtain ⟨k,hk,hkb,hor⟩:=hs
  dsimp only at hk hor
  subst hk
  by_cases hlt:k<b.length
  ·left
   have hbk:=List.getElem_mem hlt
   have hbm:=hp.mem_iff.2 hbk
   simp only [eY,gW hlt,cond_true,bl hi,bl hlt,Option.bind_some,sw gi.1 (hg _ hbm).1,bJ (show k≤4294967295 by omega)]
   show ∃ s',(bif dkk a[i]==dkk b[k] then _ else _)=_∧_
   cases hq:dkk a[i]==dkk b[k] with
   | true =>
    have hab:a[i]=b[k]:=yU hr hai hbm (eq_of_beq hq)
    rw [← hab]
    simp only [BEq.rfl,cond_true,h3,Option.bind_some]
    cases hh with
    | true=>exact ⟨_,rfl,⟨k+1,by simp [bJ (show k≤4294967295 by omega)],by omega,.inl rfl⟩,by simp only [bJ (show k≤4294967295 by omega)]; omega⟩
    | false=>exact ⟨_,rfl,⟨k+1,by simp [bJ (show k≤4294967295 by omega)],by omega,.inl rfl⟩,by simp only [bJ (show k≤4294967295 by omega)]; omega⟩
   | false =>
    have hne:dkk a[i]≠dkk b[k]:=by simpa using hq
    refine ⟨_,rfl,⟨k+1,rfl,by omega,hor.imp id fun h j hj hjk=>?_⟩,by dsimp only; omega⟩
    rcases Nat.lt_or_ge j k with h1 | h1
    ·exact h j hj h1
    ·have : j=k:=by omega
     subst this; exact fun e=>hne e.symm
  ·right
   have ek:k=b.length:=by omega
   subst ek
   have hT:hh=true:=by
    rcases hor with h | h
    ·exact h
    ·obtain ⟨j,hj,ej⟩:=List.mem_iff_getElem.1 (hp.mem_iff.1 hai)
     exact absurd (by rw [ej]) (h j hj hj)
   subst hT
   exact ⟨_,by simp only [eY,FO,cond_false,Bool.not_true,bJ (show i≤4294967295 by omega)]; rfl,rfl⟩) (s:=(false,(0:Int))) ⟨0,rfl,Nat.zero_le _,.inr fun j _ h=>by omega⟩
 obtain ⟨r,q1,q2⟩:=key
 subst q2
 simp only [fT,gW hi,cond_true,q1]
theorem DR {a:List cW} (hn:a.length≤1000) (h:∀ x∈a,isF x.W.At):kX a a=some true:=by
 have e:(((a.length:Nat):Int) !=((a.length:Nat):Int))=false:=by simp
 have e0:∀ x:Int,(x !=x)=false:=fun x=>by simp
 unfold kX
 rw [e,cond_false]
 refine dz (fun i=>(i:Int)) a.length true (fun i hi=>?_) (by simp [jh,bt])
 have hf:=h _ (List.getElem_mem hi)
 simp only [jh,gW hi,cond_true,bl hi,Option.bind_some,e0,cond_false,zz hf hf rfl rfl rfl,Bool.not_true,kC,bJ (show i≤4294967295 by omega)]
def CQ:List Nat:=[(0:Nat),(4607182418800017408:Nat),(13830554455654793216:Nat),(4612811918334230528:Nat),(9094988921128908188:Nat),(18318360957983683996:Nat),(4602678819172646912:Nat),(4613937818241073152:Nat)]
theorem EH {k:Nat} (hk:k<8):∃ x,ni (k:Int)=some x∧isF x:=by
 have h:∀ x∈CQ,isF x:=by
  intro x hx
  have : CQ.all (fun x=>decide (x<18446744073709551616))=true:=by decide
  show x<18446744073709551616
  exact of_decide_eq_true (List.all_eq_true.1 this x hx)
 have hm:Int.tmod (k:Int) (8:Int)=(k:Int):=by rw [Int.tmod_eq_emod_of_nonneg (by omega)]; omega
 have hl:k<CQ.length:=hk
 refine ⟨CQ[k],?_,h _ (List.getElem_mem hl)⟩
 unfold ni
 rw [hm]
 show (da CQ (k:Int)).bind _=_
 rw [bl hl]; rfl
theorem BW {s:ae} (h1:1≤s.epoch) (h2:s.epoch≤5) {e:Nat} (he:e<10):fq (some s) (e:Int)=some (bif decide ((e:Int)≥s.epoch) then 2 else 0):=by
 have w:IntKind.u64.wrap ((IntKind.u64.wrap ((e:Int)+(1:Int)))+(8:Int))=(e:Int)+9:=by
  rw [lP,lP]; omega
 unfold fq
 dsimp only
 rw [w,decide_eq_false (show ¬ (e:Int)+9<s.epoch by omega)]
 cases decide ((e:Int)≥s.epoch) <;> rfl
theorem EP {l:List al} (hn:l.length≤1000):ir (some {l:=l})=some (l.map (·.ID)):=by
 have h:=lc (body:=gK (l.length:Int) {l:=l}) l (fun _=>true) (·.ID) (fun out=>out) (fun i hi out ho=>by
  simp only [gK,gW hi,cond_true,bl hi,Option.bind_some,db (fa (x:=l[i].ID) (show out.length≤1073741823 by omega)),bJ (show i≤4294967295 by omega)]) (fun out _=>by simp [gK,bt])
 rw [List.filter_eq_self.2 (fun _ _=>rfl)] at h
 simp only [ir,EG,Option.bind_some,h]
theorem DJ {k:Nat} {s:ae} {m:ai} (h:LP k s m) (hk:k≤100):pL (some s) m=some true:=by
 obtain ⟨l,b1,b2,b3,b4⟩:=h.lk
 obtain ⟨rows,a1,a2⟩:=h.st
 obtain ⟨t,c1,c2,c3,c4,c5,c6⟩:=h.la
 obtain ⟨b,d1,d2,d3,d4⟩:=h.bk
 obtain ⟨o1,o2,o3,o4⟩:=h.op
 obtain ⟨x1,x2,x3⟩:=h.ou
 have he:=h.ep
 have he1:=h.e1
 have he2:=h.e2
 have hgH:∀ y∈m.H,hJ y:=fun y hy=>b2.2.2 y (b4.mem_iff.2 hy)
 have hHl:m.H.length=l.length:=b4.length_eq.symm
 have q1:=Ey b1 (by omega)
 have q2:=Ev (m:=m) (by omega)
 rw [vw b4,he] at q1
 have e0:∀ x:Int,(x !=x)=false:=fun x=>by simp
 have hop:kS (some s)=some s.open_:=by
  show (dt s.open_).bind _=_
  have : dt s.open_=some s.open_:=db (jH (by simp only [List.length_nil]; omega))
  rw [this]; rfl
 have hsd:=FA o1 o3 (by omega) o4
 have hho:jd (some s)=some (l.map (·.ID)):=by
  show (ir s.locks).bind _=_
  rw [b1,EP (by omega)]; rfl
 have hl:(l.map (·.ID)).length=l.length:=List.length_map _
 -- the holds
 have L1:br (jQ (l.map (·.ID)) (some s) m) (0:Int)=some (Sum.inl ()):=by
  have := dz (body:=jQ (l.map (·.ID)) (some s) m) (fun i=>(i:Int)) l.length (Sum.inl ():Unit ⊕ Bool) (fun i hi=>by
   have g:=b2.2.2 _ (List.getElem_mem hi)
   have hi':i<(l.map (·.ID)).length:=by rw [hl]; exact hi
   have e0:(l.map (·.ID))[i]=l[i].ID:=List.getElem_map _
   have e1:hZ kid (idk l[i].ID) l=some l[i]:=(kl b2.1).2 ⟨List.getElem_mem hi,rfl⟩
   have e2:m.H.find? (fun z=>kid z==idk l[i].ID)=some l[i]:=by rw [ug b2.1 b4]; exact e1
   have hh:kQ (some s) l[i].ID=some (l[i],true):=by
    show (gy s.locks l[i].ID).bind _=_
    rw [b1,get_eq b2 g.id,e1]; rfl
   have hr:=xH (m:=m.H) (by omega) hgH g.id
   rw [e2] at hr
   simp only [jQ,gW hi',cond_true,bl hi',e0,Option.bind_some,hh,hr,ov,Bool.not_true,cond_false]
   rw [show ({ID:=({Session:=l[i].ID.Session,Seq:=l[i].ID.Seq}:bK),Epoch:=l[i].Epoch,Gets:=l[i].Gets,Scans:=l[i].Scans,Puts:=l[i].Puts,Data:=l[i].Data}:al)=l[i] from rfl,wO g g,Ei,Option.bind_some]
   rw [bJ (show i≤4294967295 by omega)]; rfl) (by
   have : decide (((l.length:Nat):Int)<(((l.map (·.ID)).length:Nat):Int))=false:=by rw [hl]; simp
   simp only [jQ,this,cond_false]; rfl)
  exact this
 -- what stands at the numbers
 have L4:br (ln (some s) m) (0:Int)=some (Sum.inl ()):=by
  refine dz (body:=ln (some s) m) (fun i=>(i:Int)) 8 (Sum.inl ():Unit ⊕ Bool) (fun i hi=>?_) rfl
  obtain ⟨x,n1,n2⟩:=EH hi
  obtain ⟨o,_,g1,g2⟩:=qB a2 (by omega) n2 18446744073709551615
  have hnow:lG (some s) x=some (tj o):=by
   show (dW s.store x 18446744073709551615).bind _=_
   rw [a1,g1]; rfl
  have ed:decide ((i:Int)<(8:Int))=true:=decide_eq_true (by omega)
  have L6:br (jS (i:Int) (some s) m) (0:Int)=some (Sum.inl ((i+1:Nat):Int)):=by
   refine dz (body:=jS (i:Int) (some s) m) (fun e=>(e:Int)) 6 (Sum.inl ((i+1:Nat):Int):Int ⊕ (Unit ⊕ Bool)) (fun e hee=>?_) ?_
   ·obtain ⟨o',_,g3,g4⟩:=qB a2 (by omega) n2 (e:Int)
    have ed2:decide ((e:Int)<(6:Int))=true:=decide_eq_true (by omega)
    have wu:IntKind.u64.wrap ((e:Int)+(1:Int))=((e+1:Nat):Int):=by rw [lP]; omega
    have w9:IntKind.u64.wrap ((e:Int)+(9:Int))=(e:Int)+9:=by rw [lP]; omega
    have d9:decide ((e:Int)+9<m.Epoch)=false:=decide_eq_false (by omega)
    have ht:=BW he1 he2 (show e<10 by omega)
    rw [he] at ht
    simp only [jS,ed2,cond_true,n1,Option.bind_some,w9,d9,cond_false]
    have hget:lL (some s) x (e:Int)=some (bif decide ((e:Int)≥m.Epoch) then ({Has:=false,Val:=[]},2) else (tj o',0)):=by
     show (fq (some s) (e:Int)).bind _=_
     rw [ht,Option.bind_some]
     cases decide ((e:Int)≥m.Epoch) with
     | true=>rfl
     | false =>
      show (dW s.store x (e:Int)).bind _=_
      rw [a1,g3]; rfl
    rw [hget,Option.bind_some]
    cases decide ((e:Int)≥m.Epoch) with
    | true =>
     simp only [cond_true,Option.bind_some,mN,e0,cond_false,show ((2:Int)==(0:Int))=false from rfl,mP,wu]
    | false =>
     simp only [cond_false,Option.bind_some,mN,e0,BEq.rfl,cond_true,n1,g4,AM,Bool.not_true,mP,wu]
   ·have ed2:decide (((6:Nat):Int)<(6:Int))=false:=by decide
    simp only [jS,ed2,cond_false,bJ (show i≤4294967295 by omega)]; rfl
  simp only [ln,ed,cond_true,n1,Option.bind_some,hnow,g2,AM,Bool.not_true,ot,cond_false,L6]
 -- labels,sessions,rules
 have L9:br (li (some s) m) (0:Int)=some true:=by
  refine dz (body:=li (some s) m) (fun i=>(i:Int)) 4 true (fun i hi=>?_) rfl
  have ed:decide ((i:Int)<(4:Int))=true:=decide_eq_true (by omega)
  have wu:IntKind.u64.wrap (i:Int)=(i:Int):=by rw [mE] <;> omega
  have hout:lJ (some s) (i:Int)=some (s.out.filter fun y=>y.To==(i:Int)):=by
   show br (im s (i:Int)) ((0:Int),[])=_
   refine yp (l:=s.out) (i:Int) (by omega) (fun j hj acc ha=>?_) (fun acc=>?_)
   ·simp only [im,gW hj,cond_true,bl hj,Option.bind_some]
   ·simp [im,bt]
  have hto:nK m (i:Int)=some (s.out.filter fun y=>y.To==(i:Int)):=by
   rw [← x1]
   have hol:m.Out.length≤1000:=by rw [x1]; omega
   have := lc (body:=ij m (i:Int)) m.Out (fun y=>y.To==(i:Int)) (fun y=>y) (fun out=>out) (fun j hj out ho=>by
    simp only [ij,gW hj,cond_true,bl hj,Option.bind_some,db (fa (x:=m.Out[j]) (show out.length≤1073741823 by omega)),bJ (show j≤4294967295 by omega)]
    cases m.Out[j].To==(i:Int) <;> rfl) (fun out _=>by simp [ij,bt])
   rw [List.map_id'] at this
   exact this
  have hfl:=List.length_filter_le (fun y:cW=>y.To==(i:Int)) s.out
  have hsi:=DR (a:=s.out.filter fun y=>y.To==(i:Int)) (by omega) (fun x hx=>x3 x (List.mem_filter.1 hx).1)
  have hla:kY (some s) (i:Int)=some (dD (i:Int) t):=by
   show (en s.last (i:Int)).bind _=_
   rw [c1,xe c2 (by omega)]; rfl
  obtain ⟨a,ha⟩:∃ a,a=(match fC (i:Int) t with | some x=>an x | none=>dfl (i:Int)):=⟨_,rfl⟩
  have hrl:iC m.A (i:Int)=some a:=by
   have := vM c2 c4 (by omega) (i:Int)
   rw [this,ha]
   cases fC (i:Int) t <;> rfl
  have hseq:a.Seq=dD (i:Int) t:=by rw [ha]; unfold dD; cases fC (i:Int) t <;> rfl
  have hans:jD (some s) {Session:=(i:Int),Seq:=a.Seq}=some (match fC (i:Int) t with | some x=>(x.r,0) | none=>(bI,2)):=by
   show (fZ s.last (i:Int) a.Seq).bind _=_
   rw [c1,Co c2 (by omega),Option.bind_some,ha]
   cases fC (i:Int) t with
   | none=>rfl
   | some x =>
    show some ((if x.seq<x.seq then (bI,(2:Int)) else if x.seq>x.seq then (bI,(10:Int)) else (x.r,(0:Int))))=some (x.r,(0:Int))
    rw [if_neg (Int.lt_irrefl x.seq),if_neg (Int.lt_irrefl x.seq)]
  have L11:br (iX (some s) (i:Int) m) (0:Int)=some (Sum.inl ((i+1:Nat):Int)):=by
   refine dz (body:=iX (some s) (i:Int) m) (fun e=>(e:Int)) 4 (Sum.inl ((i+1:Nat):Int):Int ⊕ Bool) (fun e hee=>?_) ?_
   ·have ed2:decide ((e:Int)<(4:Int))=true:=decide_eq_true (by omega)
    have wu2:IntKind.u64.wrap ((e:Int)+(1:Int))=((e+1:Nat):Int):=by rw [lP]; omega
    have ht:=BW he1 he2 (show e<10 by omega)
    rw [he] at ht
    have r1:=Dw b (i:Int) (e:Int) (by omega)
    have r2:=zn b.l (i:Int) (e:Int) (by omega)
    rw [← d2] at r2
    have r3:=Bh d4 (ns (i:Int) (e:Int))
    generalize tI (kU (ns (i:Int) (e:Int)) b.l)=R at r1 r2 r3
    obtain ⟨R1,R2⟩:=R
    have hru:kO (some s) (i:Int) (e:Int)=some (bif decide ((e:Int)≥m.Epoch) then (eB,2) else bif !R2 then (eB,12) else (R1,0)):=by
     show iJ ((fq (some s) (e:Int)).bind _) (gO s (i:Int) (e:Int))=_
     rw [ht,Option.bind_some]
     cases decide ((e:Int)≥m.Epoch) with
     | true=>rfl
     | false =>
      show gO s (i:Int) (e:Int) ()=_
      unfold gO
      rw [d1,r1,Option.bind_some]
      cases R2 <;> rfl
    simp only [iX,ed2,cond_true,wu,hru,r2,Option.bind_some]
    cases hd:decide ((e:Int)≥m.Epoch) with
    | true =>
     cases R2 <;> simp only [Bool.not_true,Bool.not_false,cond_true,cond_false,Option.bind_some,kh,hd,ke,e0,show ((2:Int)==(0:Int))=false from rfl,wu2]
    | false =>
     cases R2 with
     | true=>simp only [Bool.not_true,Bool.not_false,cond_true,cond_false,Option.bind_some,kh,hd,ke,e0,BEq.rfl,DU r3,wu2]
     | false=>simp only [Bool.not_true,Bool.not_false,cond_true,cond_false,Option.bind_some,kh,hd,ke,e0,show ((12:Int)==(0:Int))=false from rfl,wu2]
   ·have ed2:decide (((4:Nat):Int)<(4:Int))=false:=by decide
    simp only [iX,ed2,cond_false,bJ (show i≤4294967295 by omega)]; rfl
  simp only [li,ed,cond_true,hout,hto,hsi,Option.bind_some,Bool.not_true,cond_false,wu,hla,hrl,hseq,e0]
  rw [← hseq,hans,Option.bind_some]
  have hj:nG (some s) (i:Int) m ()=some (Sum.inl ((i+1:Nat):Int)):=L11
  cases hlk:fC (i:Int) t with
  | none =>
   have hs0:a.Seq=0:=by rw [ha,hlk]; rfl
   rw [hs0]
   exact hj
  | some x =>
   have hx:=c5 x ((jB c2).1 hlk).1
   have hs0:a.Seq=x.seq:=by rw [ha,hlk]; rfl
   have hR:a.R=x.r:=by rw [ha,hlk]; rfl
   have dp:decide (a.Seq>(0:Int))=true:=decide_eq_true (by rw [hs0]; exact hx.2)
   simp only [dp,cond_true,e0,cond_false,hR,tA hx.1,Option.bind_some,Bool.not_true]
   exact hj
 unfold pL
 rw [show iQ (some s)=some s.epoch from rfl,Option.bind_some,he,e0,cond_false,q1,q2]
 simp only [Option.bind_some,BEq.rfl,Bool.not_true,cond_false,hop,hsd,hho,hl,hHl,e0,L1]
 show mJ (some s) m ()=_
 unfold mJ
 rw [L4]
 exact L9
end Go.Proofs.YtgnkkopjkgdieaaGreat

end
section
set_option linter.unusedVariables false
set_option linter.unusedSimpArgs false
set_option maxRecDepth 100000
namespace Go.Proofs.YtgnkkopjkgdieaaGreat
open Go Go.V
def qk (c:aC):Prop:=c.Kind=1→c.Epoch≤4
theorem TP.early:TP (fun t=>eU t) qk:=by
 refine TP.of zV ?_
 refine TP.bind (TP.next 7) fun a ha=>?_
 dsimp only
 have ek:IntKind.u8.wrap (IntKind.i64.wrap ((1:Int)+a))=1+a:=by
  rw [wrap_i64 (by omega) (by omega),wrap_u8] <;> omega
 rw [ek]
 have : a=0∨a=1∨a=2∨a=3∨a=4∨a=5∨a=6:=by omega
 rcases this with rfl | rfl | rfl | rfl | rfl | rfl | rfl
 ·refine TP.bind (TP.next 4) fun p hp=>?_
  dsimp only
  refine TP.ret (P:=qk) fun _=>?_
  show IntKind.u64.wrap (IntKind.i64.wrap ((1:Int)+p))≤4
  rw [wrap_i64 (by omega) (by omega),mE] <;> omega
 ·refine TP.bind TP.hold fun h hh=>?_
  dsimp only
  exact TP.ret (P:=qk) fun h=>absurd h (show ¬ (1:Int)+1=1 by decide)
 ·refine TP.bind TP.of_ fun i hi=>?_
  dsimp only
  refine TP.bind (TP.next 3) fun e he=>?_
  dsimp only
  have hg:∃ x:Int,da ([(0:Int),(0:Int),(8:Int)]) e=some x:=by
   have : e=0∨e=1∨e=2:=by omega
   rcases this with rfl | rfl | rfl <;> exact ⟨_,rfl⟩
  obtain ⟨x,hx⟩:=hg
  simp only [hx,Option.bind_some]
  refine TP.bind (TP.next 4) fun p hp=>?_
  dsimp only
  refine TP.bind (TP.next 20) fun q hq=>?_
  dsimp only
  refine TP.bind TP.writes fun w hw=>?_
  dsimp only
  exact TP.ret (P:=qk) fun h=>absurd h (show ¬ (1:Int)+2=1 by decide)
 ·refine TP.bind TP.of_ fun i hi=>?_
  dsimp only
  refine TP.bind (TP.next 6) fun b hb=>?_
  dsimp only
  refine TP.bind (TP.next 4) fun p hp=>?_
  dsimp only
  refine TP.bind (TP.next 4) fun q hq=>?_
  dsimp only
  refine TP.bind (TP.next 3) fun n hn=>?_
  dsimp only
  refine TP.tl (P:=fun _=>True) (body:=dP (n,rt)) (F:=fun i t=>(fp t).bind fun w=>some (({Shard:=i,Writes:=w.1}:dX),w.2)) (fun t acc i=>(acc,t,i)) (fun t acc=>(t,acc)) n (by omega) hn.1 (fun j j0 j1=>?_) (fun t acc i hi=>?_) (fun t acc i hi=>?_) (fun parts p1 p2=>?_)
  ·refine TP.bind TP.writes fun w hw=>?_
   dsimp only
   exact TP.ret trivial
  ·have e:decide (i<n)=true:=by simpa using hi
   simp only [dP,e,cond_true,Option.bind_assoc,Option.bind_some]
  ·have e:decide (i<n)=false:=by simpa using hi
   simp only [dP,e,cond_false,bt,Option.map_some]
  dsimp only
  refine TP.bind TP.Ai fun x hx=>?_
  dsimp only
  exact TP.ret (P:=qk) fun h=>absurd h (show ¬ (1:Int)+3=1 by decide)
 ·refine TP.bind TP.of_ fun i hi=>?_
  dsimp only
  exact TP.ret (P:=qk) fun h=>absurd h (show ¬ (1:Int)+4=1 by decide)
 ·refine TP.bind TP.kj fun r hr=>?_
  dsimp only
  refine TP.bind (TP.next 3) fun o ho=>?_
  dsimp only
  show TP (fun t=>some (({zC with Kind:=1+5,Rule:=r,On:=decide (o>(0:Int))}:aC),t)) qk
  exact TP.ret (P:=qk) fun h=>absurd h (show ¬ (1:Int)+5=1 by decide)
 ·refine TP.bind TP.of_ fun i hi=>?_
  dsimp only
  refine TP.bind (TP.next 4) fun p hp=>?_
  dsimp only
  refine TP.bind TP.kj fun r hr=>?_
  dsimp only
  refine TP.bind TP.writes fun w hw=>?_
  dsimp only
  refine TP.bind TP.Ai fun x hx=>?_
  dsimp only
  exact TP.ret (P:=qk) fun h=>absurd h (show ¬ (1:Int)+6=1 by decide)
theorem CT {k:Nat} {s:ae} {m:ai} (h:LP k s m) (hk:k≤100) {c:aC} (g:Df c) (he:qk c) (n:Int):Step k s m n c:=by
 rcases kinds g.1 with hc | hc | hc | hc | hc | hc | hc
 ·exact zI h hk hc (he hc) n
 ·exact Bx h hk hc g.2.2.2.2.2.1 n
 ·exact BS h hk hc g n
 ·exact yz h hk hc g n
 ·exact yT h hk hc g.2.1 n
 ·exact zt h hk hc g.2.2.2.2.2.2.2.2.2.2.2 n
 ·exact AS h hk hc g n
theorem Dh {a b:bh} (h:yQ a b):ka a b=some true:=by
 obtain ⟨h1,h2,h3⟩:=h
 unfold ka
 rw [h1,h2,h3]
 simp only [BEq.rfl,cond_true,Bool.and_self,Option.bind_some]
theorem uV {a0:List Int} {a1:Int} (o0:a0.length≤maxLen∧∀ x∈a0,(Lit.int .u8 x).wf=true) (o1:(Lit.int .u8 a1).wf=true):mR a0 a1=some true:=by
 unfold mR
 simp only [CB,Option.bind_some,Bool.not_true,cond_false]
 cases h0:decide ((a0.length:Int)>(600:Int)) with
 | true=>rfl
 | false =>
 have l0:a0.length≤600:=by have:=of_decide_eq_false h0; omega
 obtain ⟨W,hW,hW2⟩:∃ W,W=Int.tmod (IntKind.i64.wrap a1) (6:Int)∧W≤1000000:=⟨_,rfl,by
  have := Int.tmod_lt_of_pos (IntKind.i64.wrap a1) (show (0:Int)<6 by decide)
  omega⟩
 rw [← hW]
 have hN:qC W=some {wide:=W,epoch:=1,store:=some {rows:=[]},locks:=some {l:=[]},last:=some {l:=[]},book:=some {l:=[]},open_:=[],out:=[],used:=[]}:=rfl
 have hM:sB W=some {Wide:=W,Epoch:=1,V:=[],H:=[],A:=[],B:=[],Open:=[],Out:=[],Used:=[]}:=rfl
 simp only [cond_false,hN,hM,Option.bind_some]
 have hLP:LP 0 {wide:=W,epoch:=1,store:=some {rows:=[]},locks:=some {l:=[]},last:=some {l:=[]},book:=some {l:=[]},open_:=[],out:=[],used:=[]} {Wide:=W,Epoch:=1,V:=[],H:=[],A:=[],B:=[],Open:=[],Out:=[],Used:=[]} :=
  ⟨rfl, hW2,rfl,Int.le_refl _,by show (1:Int)≤5; decide,⟨[],rfl,DW⟩,⟨[],rfl,DV,Nat.le_refl _,List.Perm.refl _⟩,⟨[],rfl,zr,Nat.le_refl _,List.Perm.refl _,fun x hx=>(by cases hx),fun x hx=>(by cases hx)⟩,⟨{l:=[]},rfl,rfl,Nat.le_refl _,fun x hx=>(by cases hx)⟩,⟨pD,Nat.le_refl _,List.Perm.refl _,fun x hx=>(by cases hx)⟩,⟨rfl,Nat.le_refl _,fun x hx=>(by cases hx)⟩,⟨pD,Nat.le_refl _,List.Perm.refl _,fun x hx=>(by cases hx)⟩⟩
 refine Bb (body:=ji) (fun s=>∃ i:Nat,s.2.2.2=(i:Int)∧i≤30∧pI s.1∧LP i s.2.1 s.2.2.1) (fun s=>(30 - s.2.2.2).toNat) ?_ ⟨0,rfl,by omega,⟨Int.le_refl _,by show a0.length≤1000000; omega,fun x hx=>Fi.1 (o0.2 x hx)⟩,hLP⟩
 rintro ⟨t,s,m,j⟩ ⟨i,hj,hi,ht,hL⟩
 dsimp only at hj ht hL
 subst hj
 by_cases hlt:i<30
 ·left
  have ed:decide ((i:Int)<(30:Int))=true:=decide_eq_true (by omega)
  obtain ⟨c,t1,e1,hc,ht1⟩:=TP.command t ht
  obtain ⟨c',t1',e1',hc',_⟩:=TP.early t ht
  have hcc:c'=c:=by
   have e1:eU t=some (c,t1):=e1
   have e1':eU t=some (c',t1'):=e1'
   rw [e1] at e1'
   exact (Prod.mk.inj (some_inj e1')).1.symm
  rw [hcc] at hc'
  obtain ⟨e,e',s',m',q1,q2,q3,q4⟩:=CT hL (by omega) hc.1 hc' (IntKind.u64.wrap ((i+1:Nat):Int))
  have e1:eU t=some (c,t1):=e1
  simp only [ji,ed,cond_true,e1,Option.bind_some,q1,q2,Dh q3,Bool.not_true,cond_false,DJ q4 (by omega),bJ (show i≤4294967295 by omega)]
  exact ⟨(t1,s',m',((i+1:Nat):Int)),rfl,⟨i+1,rfl,by omega,ht1,q4⟩,by dsimp only; omega⟩
 ·right
  have : i=30:=by omega
  subst this
  rfl
end Go.Proofs.YtgnkkopjkgdieaaGreat

end
