/- A part of the proof. -/
import Derived.Test.YtgnkkopjkgdieaaGreatLanePlaysGw
import Derived.Test.YtgnkkopjkgdieaaGreatLanePlaysP1
section
set_option linter.unusedVariables false
set_option linter.unusedSimpArgs false
set_option maxRecDepth 100000
namespace Go.Proofs.YtgnkkopjkgdieaaGreat
open Go Go.V
def dA (x:df):cD:={R:=x.r,From:=x.from_,To:=x.to_}
theorem uN (id e:Int) (he:0≤e) (x:df):dA (fX id e x)=bif nm id x then {R:=x.r,From:=x.from_,To:=bif e==0 then 1 else e} else dA x:=by
 unfold fX
 cases nm id x with
 | false=>rfl
 | true =>
  simp only [cond_true,dA,cD.mk.injEq,true_and]
  by_cases h:e=0
  ·subst h; rfl
  ·have h1:¬ (1:Int)>e:=by omega
   have h2:(e==0)=false:=by simpa using h
   rw [if_neg h1,h2]; rfl
theorem vK (l:List df) (id e:Int) (he:0≤e) (hl:l.length≤1000000):mh (l.map dA) id e=some ((l.map (fX id e)).map dA,l.any (nm id)):=by
 have key:∀ z:Int,(bif e==0 then (1:Int) else e)=z→kV (l.map dA) id z=some ((l.map (fX id e)).map dA,l.any (nm id)):=by
  intro z hz
  unfold kV
  have h:=dz (body:=iu (l.map dA) id z) (fun i=>((i:Int),((l.take i).map (fX id e)).map dA,(l.take i).any (nm id))) l.length (((l.map (fX id e)).map dA,l.any (nm id))) ?_ ?_
  ·have h0:br (iu (l.map dA) id z) ((0:Int),[],false)=some ((l.map (fX id e)).map dA,l.any (nm id)):=by simpa using h
   rw [h0]; rfl
  ·intro i hi
   have e1:decide ((i:Int)<((l.map dA).length:Int))=true:=by simpa using hi
   have e2:IntKind.i64.wrap ((i:Int)+1)=((i+1:Nat):Int):=by rw [wrap_i64] <;> omega
   have hg:da (l.map dA) (i:Int)=some (dA l[i]):=by rw [bl (by simpa using hi)]; simp
   have hroom:∀ y:cD,room (((l.take i).map (fX id e)).map dA) [y]=true:=fun y=>jH (by simp; omega)
   have hset:∀ y:cD,y=dA (fX id e l[i])→((l.take i).map (fX id e)).map dA++[y]=((l.take (i+1)).map (fX id e)).map dA:=by
    intro y hy
    rw [List.take_succ_eq_append_getElem hi,List.map_append,List.map_append,hy]
    rfl
   simp only [iu,e1,cond_true,hg,Option.bind_some,vh _ _ _ hi]
   cases hh:nm id l[i] with
   | true =>
    have hh2:=hh
    simp only [nm,Bool.and_eq_true] at hh2
    have c1:((dA l[i]).R.ID==id)=true:=hh2.1
    have c2:((dA l[i]).To==0)=true:=hh2.2
    simp only [c1,c2,cond_true,Option.bind_some,ju,e2,db (hroom _),Bool.or_true]
    rw [hset]
    rw [uN _ _ he,hh,← hz]; rfl
   | false =>
    have hx:dA (fX id e l[i])=dA l[i]:=by rw [uN _ _ he,hh]; rfl
    have hs:=hset (dA l[i]) hx.symm
    have fin:ju (((l.take i).map (fX id e)).map dA) (dA l[i]) (i:Int) ((l.take i).any (nm id),(dA l[i]).To)=some (Sum.inl (((i+1:Nat):Int),((l.take (i+1)).map (fX id e)).map dA,(l.take i).any (nm id))):=by
     simp only [ju,e2,db (hroom _)]
     rw [← hs]
    rw [Bool.or_false]
    cases h1:((dA l[i]).R.ID==id) with
    | false=>exact fin
    | true =>
     have h2:((dA l[i]).To==0)=false:=by
      have : nm id l[i]=(((dA l[i]).R.ID==id)&&((dA l[i]).To==0)):=rfl
      rw [this,h1,Bool.true_and] at hh
      exact hh
     rw [h2]; exact fin
  ·have e1:decide ((l.length:Int)<((l.map dA).length:Int))=false:=by simp
   simp only [iu,e1,cond_false,bt,Option.map_some,List.take_length]
 unfold mh
 cases h:(e==0) with
 | true=>exact key 1 (by rw [h]; rfl)
 | false=>exact key e (by rw [h]; rfl)
theorem zn (l:List df) (id e:Int) (hl:l.length≤1000000):rY (l.map dA) id e=some (tI (kU (ns id e) l)):=by
 unfold rY
 let st:Nat→Int×Int×Int×Nat×Nat×Int×Int×Int×Bool:=fun i =>
  let r:=tI (kU (ns id e) (l.take i))
  (r.1.ID, r.1.From,r.1.To,r.1.Lo,r.1.Hi,r.1.Authority,r.1.Quota,(i:Int),r.2)
 let fin:Int×Int×Int×Nat×Nat×Int×Int×Bool :=
  let r:=tI (kU (ns id e) l)
  (r.1.ID, r.1.From,r.1.To,r.1.Lo,r.1.Hi,r.1.Authority,r.1.Quota,r.2)
 have h:=dz (body:=lQ (l.map dA) id e) st l.length fin ?_ ?_
 ·have h0:br (lQ (l.map dA) id e) ((0:Int),(0:Int),(0:Int),(0:Nat),(0:Nat),(0:Int),(0:Int),(0:Int),false)=some fin:=h
  rw [h0]; rfl
 ·intro i hi
  have e1:decide ((i:Int)<((l.map dA).length:Int))=true:=by simpa using hi
  have e2:IntKind.i64.wrap ((i:Int)+1)=((i+1:Nat):Int):=by rw [wrap_i64] <;> omega
  have hg:da (l.map dA) (i:Int)=some (dA l[i]):=by rw [bl (by simpa using hi)]; simp
  simp only [st,lQ,e1,cond_true,hg,Option.bind_some,e2,List.take_succ_eq_append_getElem hi,wC]
  have ht:ns id e l[i]=(((dA l[i]).R.ID==id)&&(decide ((dA l[i]).From≤e)&&(((dA l[i]).To==0)||decide (e<(dA l[i]).To)))):=rfl
  rw [ht]
  cases ((dA l[i]).R.ID==id) <;> cases decide ((dA l[i]).From≤e) <;> cases ((dA l[i]).To==0) <;> cases decide (e<(dA l[i]).To) <;> rfl
 ·have e1:decide ((l.length:Int)<((l.map dA).length:Int))=false:=by simp
  simp only [st,fin,lQ,e1,cond_false,bt,Option.map_some,List.take_length]
theorem Bh {l:List df} (h:∀ x∈l,rD x.r) (p:df→Bool):rD (tI (kU p l)).1:=by
 cases hf:kU p l with
 | none=>exact ⟨by decide,by decide⟩
 | some x=>exact h x (List.mem_reverse.1 (List.mem_of_find?_eq_some hf))
end Go.Proofs.YtgnkkopjkgdieaaGreat

end
section
set_option linter.unusedVariables false
set_option linter.unusedSimpArgs false
set_option maxRecDepth 100000
namespace Go.Proofs.YtgnkkopjkgdieaaGreat
open Go Go.V
theorem CM (e:Int):eJ (some {l:=[]}) e=some false:=by
 have h:br (eR {l:=[]} e) (0:Int)=some (-1):=by rw [eA]; rfl
 simp only [eJ,h,Option.bind_some]; rfl
theorem CB:lF=some true:=by
 unfold lF
 simp only [qC,ud,sJ,qb,qS,Option.bind_some]
 unfold cn
 unfold iy jc
 simp only [CM]
 rfl
def vU (n:Nat) (v:List Int):List Int:=(List.range n).map fun i=>(v[i]?).getD 0
theorem DT (n:Nat) (v:List Int):cpy (List.replicate n (0:Int)) v=vU n v:=by
 unfold cpy vU
 rw [List.length_replicate]
 apply List.ext_getElem
 ·simp only [List.length_append,List.length_take,List.length_drop,List.length_replicate,List.length_map,List.length_range]; omega
 ·intro i h1 h2
  rw [List.getElem_map,List.getElem_range]
  rw [List.length_map,List.length_range] at h2
  by_cases hv:i<v.length
  ·rw [List.getElem_append_left (by rw [List.length_take]; omega),List.getElem_take,List.getElem?_eq_getElem hv,Option.getD_some]
  ·rw [List.getElem_append_right (by rw [List.length_take]; omega),List.getElem_drop,List.getElem_replicate,List.getElem?_eq_none (by omega),Option.getD_none]
theorem ES (w:bN) {n:Int} (hn:n≤1000000):se w n=some {w with Val:=if w.Del then [] else vU n.toNat w.Val}:=by
 have e0:(if (0:Int)>n then (0:Int) else n)=((n.toNat:Nat):Int):=by split <;> omega
 unfold se
 rw [e0,db (by simp [CU]; omega),Int.toNat_natCast,DT]
 cases hd:w.Del <;> simp [pS,hd]
theorem AR (w:bN) {n:Int} (hn:n≤1000000):qq w n=some {w with Val:=if w.Del then [] else vU n.toNat w.Val}:=by
 unfold qq
 cases hd:w.Del with
 | true =>
  have h:br (jC n w) ([],(0:Int))=some []:=by
   rw [eA]
   simp only [jC,hd,Bool.not_true,cond_false]
   cases decide ((0:Int)<n) <;> rfl
  rw [h,Option.bind_some]
  simp only [nM,hd,if_true]
 | false =>
  have h:=dz (body:=jC n w) (fun i=>(vU i w.Val,(i:Int))) n.toNat (vU n.toNat w.Val) (fun i hi=>by
   have e1:decide ((i:Int)<n)=true:=by simp; omega
   have e2:(bif decide ((i:Int)<((w.Val.length:Nat):Int)) then (da w.Val (i:Int)).bind fun x=>some x else some (0:Int))=some ((w.Val[i]?).getD 0):=by
    by_cases hv:i<w.Val.length
    ·rw [gW hv,cond_true,bl hv,Option.bind_some,List.getElem?_eq_getElem hv,Option.getD_some]
    ·have : decide ((i:Int)<((w.Val.length:Nat):Int))=false:=by simp; omega
     rw [this,cond_false,List.getElem?_eq_none (by omega),Option.getD_none]
   have hl:(vU i w.Val).length=i:=by simp [vU]
   simp only [jC,e1,cond_true,hd,Bool.not_false,e2,Option.bind_some,oZ,bJ (show i≤4294967295 by omega)]
   rw [db (fa (by omega))]
   simp [vU,List.range_succ]) (by
   have e1:decide (((n.toNat:Nat):Int)<n)=false:=by simp; omega
   simp only [jC,e1,cond_false,bt,Option.map_some])
  have h0:vU 0 w.Val=[]:=rfl
  rw [h0] at h
  rw [show (((0:Nat)):Int)=(0:Int) from rfl] at h
  rw [h,Option.bind_some]
  simp only [nM,hd,Bool.false_eq_true,if_false]
theorem zz {a b:bN} (ha:a.At<18446744073709551616) (hb:b.At<18446744073709551616) (h1:ax a.At=ax b.At) (h2:a.Del=b.Del) (h3:a.Val=b.Val):fI [a] [b]=some true:=by
 have e:((([a]:List bN).length:Int) !=(([b]:List bN).length:Int))=false:=by simp
 unfold fI
 rw [e,cond_false]
 refine dz (fun i=>(i:Int)) 1 true (fun i hi=>?_) (by simp [fe,bt])
 have : i=0:=by omega
 subst this
 have d0:decide (((0:Nat):Int)<((([a]:List bN).length:Nat):Int))=true:=by simp
 have g0:da [a] (((0:Nat)):Int)=some a:=rfl
 have g1:da [b] (((0:Nat)):Int)=some b:=rfl
 simp only [fe,d0,cond_true,g0,g1,Option.bind_some,nC ha hb,h1,decide_true,Bool.not_true,cond_false,h2,h3,BEq.rfl,oc,bJ (i:=0) (by omega)]
end Go.Proofs.YtgnkkopjkgdieaaGreat

end
section
set_option linter.unusedVariables false
set_option linter.unusedSimpArgs false
set_option maxRecDepth 100000
namespace Go.Proofs.YtgnkkopjkgdieaaGreat
open Go Go.V
theorem xY {α:Type} (l:List α):l.filter (fun _=>true)=l:=List.filter_eq_self.2 fun _ _=>rfl
noncomputable def sc (rows:List bR) (h:al):bp:={E:=0,Epoch:=0,Index:=0,Gots:=h.Gets.map fun x=>(dW (some {rows:=rows}) x 18446744073709551615).getD {Has:=false,Val:=[]},Scans:=h.Scans.map fun x=>(ft (some {rows:=rows}) x.1 x.2 18446744073709551615 64).getD []}
noncomputable def nl (V:List aB) (h:al):bp:={E:=0,Epoch:=0,Index:=0,Gots:=h.Gets.map fun x=>(iU V x 18446744073709551615).getD {Has:=false,Val:=[]},Scans:=h.Scans.map fun x=>(lS V x.1 x.2 18446744073709551615 64).getD []}
structure asks (h:al):Prop where
 g : ∀ x∈h.Gets,isF x
 s : ∀ x∈h.Scans,isF x.1∧isF x.2
 lg : h.Gets.length≤1000
 ls : h.Scans.length≤1000
theorem Fb {s:ae} {rows:List bR} {V:List aB} {n:Nat} (hs:s.store=some {rows:=rows}) (hi:Inv n rows V) (hn:n≤10000) {h:al} (g:asks h):jv (some s) h=some (sc rows h):=by
 have l1:=g.lg
 have l2:=g.ls
 have e1:=lc (body:=gQ h s) h.Gets (fun _=>true) (fun x=>(dW (some {rows:=rows}) x 18446744073709551615).getD {Has:=false,Val:=[]}) (fun out=>out) (fun i hi' out ho=>by
  obtain ⟨o,_,h2,_⟩:=qB hi hn (g.g _ (List.getElem_mem hi')) 18446744073709551615
  simp only [gQ,gW hi',cond_true,bl hi',Option.bind_some,hs,h2,Option.getD_some]
  rw [db (fa (by omega)),bJ (show i≤4294967295 by omega)]) (fun out _=>by simp [gQ,bt])
 have e2:∀ G,br (fE h s G) ([],(0:Int))=some {E:=0,Epoch:=0,Index:=0,Gots:=G,Scans:=(h.Scans.filter (fun _=>true)).map fun x=>(ft (some {rows:=rows}) x.1 x.2 18446744073709551615 64).getD []}:=fun G=>by
  refine lc (body:=fE h s G) h.Scans (fun _=>true) (fun x=>(ft (some {rows:=rows}) x.1 x.2 18446744073709551615 64).getD []) (fun out=>{E:=0,Epoch:=0,Index:=0,Gots:=G,Scans:=out}) (fun i hi' out ho=>?_) (fun out _=>by simp [fE,bt])
  have hf:=g.s _ (List.getElem_mem hi')
  obtain ⟨P,Q,h2,_,_⟩:=ux hi hn hf.1 hf.2 18446744073709551615 64
  simp only [fE,gW hi',cond_true,bl hi',Option.bind_some,hs,h2,Option.getD_some]
  rw [db (fa (by omega)),bJ (show i≤4294967295 by omega)]
 unfold jv
 dsimp only
 rw [e1,Option.bind_some,kE,e2,xY,xY]
 rfl
theorem Fh {m:ai} {rows:List bR} {n:Nat} (hi:Inv n rows m.V) (hn:n≤10000) {h:al} (g:asks h):iP m h=some (nl m.V h):=by
 have l1:=g.lg
 have l2:=g.ls
 have e1:=lc (body:=gj h m) h.Gets (fun _=>true) (fun x=>(iU m.V x 18446744073709551615).getD {Has:=false,Val:=[]}) (fun out=>out) (fun i hi' out ho=>by
  obtain ⟨o,_,_,h2⟩:=qB hi hn (g.g _ (List.getElem_mem hi')) 18446744073709551615
  simp only [gj,gW hi',cond_true,bl hi',Option.bind_some,h2,Option.getD_some]
  rw [db (fa (by omega)),bJ (show i≤4294967295 by omega)]) (fun out _=>by simp [gj,bt])
 have e2:∀ G,br (fc h m G) ([],(0:Int))=some {E:=0,Epoch:=0,Index:=0,Gots:=G,Scans:=(h.Scans.filter (fun _=>true)).map fun x=>(lS m.V x.1 x.2 18446744073709551615 64).getD []}:=fun G=>by
  refine lc (body:=fc h m G) h.Scans (fun _=>true) (fun x=>(lS m.V x.1 x.2 18446744073709551615 64).getD []) (fun out=>{E:=0,Epoch:=0,Index:=0,Gots:=G,Scans:=out}) (fun i hi' out ho=>?_) (fun out _=>by simp [fc,bt])
  have hf:=g.s _ (List.getElem_mem hi')
  obtain ⟨P,Q,_,h2,_⟩:=ux hi hn hf.1 hf.2 18446744073709551615 64
  simp only [fc,gW hi',cond_true,bl hi',Option.bind_some,h2,Option.getD_some]
  rw [db (fa (by omega)),bJ (show i≤4294967295 by omega)]
 unfold iP
 rw [e1,Option.bind_some,jX,e2,xY,xY]
 rfl
theorem Bd {rows:List bR} {V:List aB} {n:Nat} (hi:Inv n rows V) (hn:n≤10000) {h:al} (g:asks h):eV (sc rows h) (nl V h)=some true:=by
 have l1:=g.lg
 have l2:=g.ls
 have eg:(sc rows h).Gots=(nl V h).Gots:=by
  refine List.map_congr_left fun x hx=>?_
  obtain ⟨o,_,h1,h2⟩:=qB hi hn (g.g _ hx) 18446744073709551615
  rw [h1,h2]
 have s1:(sc rows h).Scans.length=h.Scans.length:=List.length_map _
 have s2:(nl V h).Scans.length=h.Scans.length:=List.length_map _
 have e0:∀ x:Int,(x !=x)=false:=fun x=>by simp
 have sg:=wQ (nl V h).Gots (by show (h.Gets.map _).length≤_; rw [List.length_map]; omega)
 unfold eV
 rw [show (sc rows h).E=0 from rfl,show (nl V h).E=0 from rfl,show (sc rows h).Epoch=0 from rfl,show (nl V h).Epoch=0 from rfl,show (sc rows h).Index=0 from rfl,show (nl V h).Index=0 from rfl,eg,s1,s2,sg]
 simp only [e0,cond_false,Option.bind_some,Bool.not_true]
 refine dz (fun i=>(i:Int)) h.Scans.length true (fun i hi'=>?_) ?_
 ·have hf:=g.s _ (List.getElem_mem hi')
  obtain ⟨P,Q,h1,h2,h3⟩:=ux hi hn hf.1 hf.2 18446744073709551615 64
  have i1:i<(sc rows h).Scans.length:=by omega
  have i2:i<(nl V h).Scans.length:=by omega
  have p1:(sc rows h).Scans[i]=P:=(List.getElem?_eq_some_iff.1 (show (sc rows h).Scans[i]?=some P by show (h.Scans.map _)[i]?=_; rw [List.getElem?_map,List.getElem?_eq_getElem hi',Option.map_some,h1]; rfl)).2
  have p2:(nl V h).Scans[i]=Q:=(List.getElem?_eq_some_iff.1 (show (nl V h).Scans[i]?=some Q by show (h.Scans.map _)[i]?=_; rw [List.getElem?_map,List.getElem?_eq_getElem hi',Option.map_some,h2]; rfl)).2
  simp only [fA,gW i1,cond_true,bl i1,bl i2,p1,p2,Option.bind_some,h3,Bool.not_true,cond_false,bJ (show i≤4294967295 by omega)]
 ·rw [← s1]
  simp [fA,bt]
noncomputable def tS (E:Int) (l:List al) (x:al):Int×List al :=
 match hZ kid (kid x) l with
 | some y=>bif tr (mG y=mG x) then (0,l) else bif decide (x.ID.Session<9223372036854775808) then (8,l) else bif decide (x.Epoch≤y.Epoch) then (8,l) else bif l.any (bars x) then (8,l) else (0,kq kid l x)
 | none=>bif x.Epoch !=E then (9,l) else bif l.any (bars x) then (8,l) else (0,kq kid l x)
noncomputable def tf (E:Int) (H:List al) (x:al):Int×List al :=
 match H.find? (fun z=>kid z==kid x) with
 | some y=>bif tr (mG y=mG x) then (0,H) else bif decide (x.ID.Session<9223372036854775808) then (8,H) else bif decide (x.Epoch≤y.Epoch) then (8,H) else bif H.any (bars x) then (8,H) else (0,(H.filter fun y=>kid y !=kid x)++[x])
 | none=>bif x.Epoch !=E then (9,H) else bif H.any (bars x) then (8,H) else (0,(H.filter fun y=>kid y !=kid x)++[x])
def tg (s:ae) (l:List al):ae:={s with locks:=some {l:=l}}
def ye (m:ai) (H:List al):ai:={m with H:=H}
theorem CI {s:ae} {l:List al} (hs:s.locks=some {l:=l}):tg s l=s:=by
 obtain ⟨w,e,st,lk,la,bk,op,o,u⟩:=s
 dsimp only at hs
 subst hs; rfl
theorem EL {l:List al} (h:rb l) (hn:l.length≤999) {x:al} (hx:hJ x):gM (some {l:=l}) x=some (bif l.any (bars x) then (8,some {l:=l}) else (0,some {l:=kq kid l x})):=by
 rw [Dx h hn hx]; cases l.any (bars x) <;> rfl
theorem DF {m:List al} (hn:m.length≤999) (hg:∀ x∈m,hJ x) {x:al} (hx:hJ x):nZ m x=some (bif m.any (bars x) then (m,false) else ((m.filter fun y=>kid y !=kid x)++[x],true)):=by
 rw [Cz hn hg hx]; cases m.any (bars x) <;> rfl
theorem EV {s:ae} {l:List al} (hs:s.locks=some {l:=l}) (h:rb l) (hn:l.length≤900) {x:al} (hx:hJ x):jt (some s) x=some ((tS s.epoch l x).1,some (tg s (tS s.epoch l x).2)):=by
 have hg:=get_eq h hx.id
 rw [show idk x.ID=kid x from rfl] at hg
 have ht:=EL h (by omega) hx
 have hj:ee s x ()=some (bif l.any (bars x) then ((8:Int),some (tg s l)) else (0,some (tg s (kq kid l x)))):=by
  unfold ee
  rw [hs,ht,Option.bind_some]
  cases l.any (bars x) <;> rfl
 have hw:=CI hs
 unfold jt
 dsimp only
 rw [hs,hg,Option.bind_some]
 unfold tS
 cases e:hZ kid (kid x) l with
 | some y =>
  have hy:=h.2.2 y ((kl h.1).1 e).1
  have hsm:=Cs hy hx
  dsimp only
  rw [Option.bind_some]
  show iJ ((nY y x).bind fun t415=>(bif t415 then (bt (some ((0:Int),(some s)))) else (bif (decide (x.ID.Session<(9223372036854775808:Int))) then (bt (some ((8:Int),(some s)))) else (bif (decide (x.Epoch≤y.Epoch)) then (bt (some ((8:Int),(some s)))) else (some (Sum.inl ())))))) (ee s x)=_
  rw [hsm,Option.bind_some]
  cases tr (mG y=mG x) with
  | true=>show some ((0:Int),some s)=some (0,some (tg s l)); rw [hw]
  | false =>
  cases decide (x.ID.Session<9223372036854775808) with
  | true=>show some ((8:Int),some s)=some (8,some (tg s l)); rw [hw]
  | false =>
  cases decide (x.Epoch≤y.Epoch) with
  | true=>show some ((8:Int),some s)=some (8,some (tg s l)); rw [hw]
  | false =>
   show ee s x ()=_
   rw [hj]
   cases l.any (bars x) <;> rfl
 | none =>
  dsimp only
  rw [Option.bind_some]
  show iJ (bif x.Epoch !=s.epoch then bt (some ((9:Int),some s)) else some (Sum.inl ())) (ee s x)=_
  cases x.Epoch !=s.epoch with
  | true=>show some ((9:Int),some s)=some (9,some (tg s l)); rw [hw]
  | false =>
   show ee s x ()=_
   rw [hj]
   cases l.any (bars x) <;> rfl
theorem EI {m:ai} (hn:m.H.length≤900) (hg:∀ y∈m.H,hJ y) {x:al} (hx:hJ x):iV m x=some ((tf m.Epoch m.H x).1,ye m (tf m.Epoch m.H x).2):=by
 have hh:=xH (m:=m.H) (by omega) hg hx.id
 rw [show idk x.ID=kid x from rfl] at hh
 have ht:=DF (m:=m.H) (by omega) hg hx
 have hj:dV m x ()=some (bif m.H.any (bars x) then ((8:Int),ye m m.H) else (0,ye m ((m.H.filter fun y=>kid y !=kid x)++[x]))):=by
  unfold dV
  rw [ht,Option.bind_some]
  cases m.H.any (bars x) <;> rfl
 unfold iV
 rw [hh,Option.bind_some]
 unfold tf
 cases e:m.H.find? (fun z=>kid z==kid x) with
 | some y =>
  have hy:=hg y (List.mem_of_find?_eq_some e)
  have hsm:=wO hy hx
  dsimp only
  rw [Option.bind_some]
  show iJ (((ja y x).bind fun t676=>(bif t676 then (bt (some ((0:Int),m))) else (some (Sum.inl ()))))) (fun u=>iJ (bif (decide (x.ID.Session<(9223372036854775808:Int))) then (bt (some ((8:Int),m))) else (bif (decide (x.Epoch≤y.Epoch)) then (bt (some ((8:Int),m))) else (some (Sum.inl ())))) (fun u=>dV m x u))=_
  rw [hsm,Option.bind_some]
  cases tr (mG y=mG x) with
  | true=>rfl
  | false =>
  cases decide (x.ID.Session<9223372036854775808) with
  | true=>rfl
  | false =>
  cases decide (x.Epoch≤y.Epoch) with
  | true=>rfl
  | false =>
   show dV m x ()=_
   rw [hj]
   cases m.H.any (bars x) <;> rfl
 | none =>
  dsimp only
  rw [Option.bind_some]
  show iJ (bif x.Epoch !=m.Epoch then bt (some ((9:Int),m)) else some (Sum.inl ())) (fun u=>dV m x u)=_
  cases x.Epoch !=m.Epoch with
  | true=>rfl
  | false =>
   show dV m x ()=_
   rw [hj]
   cases m.H.any (bars x) <;> rfl
theorem CL {l H:List al} (h:rb l) (hp:l.Perm H) (E:Int) (hn:l.length≤900) {x:al} (hx:hJ x):(tS E l x).1=(tf E H x).1∧(tS E l x).2.Perm (tf E H x).2∧rb (tS E l x).2∧(tS E l x).2.length≤l.length+1:=by
 have hput:=Dv h hp x
 have tput:=BV h hx (by omega)
 have lput:=rB h.1 x
 unfold tS tf
 rw [ug h.1 hp,vw hp (bars x)]
 cases hZ kid (kid x) l with
 | some y =>
  dsimp only
  cases tr (mG y=mG x) with
  | true=>exact ⟨rfl,hp,h,Nat.le_succ _⟩
  | false =>
  cases decide (x.ID.Session<9223372036854775808) with
  | true=>exact ⟨rfl,hp,h,Nat.le_succ _⟩
  | false =>
  cases decide (x.Epoch≤y.Epoch) with
  | true=>exact ⟨rfl,hp,h,Nat.le_succ _⟩
  | false =>
  cases H.any (bars x) with
  | true=>exact ⟨rfl,hp,h,Nat.le_succ _⟩
  | false=>exact ⟨rfl,hput,tput,lput⟩
 | none =>
  dsimp only
  cases x.Epoch !=E with
  | true=>exact ⟨rfl,hp,h,Nat.le_succ _⟩
  | false =>
  cases H.any (bars x) with
  | true=>exact ⟨rfl,hp,h,Nat.le_succ _⟩
  | false=>exact ⟨rfl,hput,tput,lput⟩
def yQ (a b:bh):Prop:=a.Kind=b.Kind∧a.ID=b.ID∧eV a.R b.R=some true
theorem gT {a:bh} (h:okR a.R):yQ a a:=⟨rfl,rfl,tA h⟩
theorem vL (e p i:Int):okR {E:=e,Epoch:=p,Index:=i,Gots:=[],Scans:=[]}:=⟨by show (0:Nat)≤_; omega,by show (0:Nat)≤_; omega,fun l hl=>(by cases hl)⟩
theorem Dz {s:ae} {c:aC} (hk:c.Kind=2) (n:Int):cn (some s) n c=(je (some s) c).bind fun t=>match t.2 with | none=>none | some y=>some (t.1,some y):=by
 unfold cn
 dsimp only
 rw [hk]; rfl
theorem EX {s:ae} {c:aC} (hk:c.Kind=3) (n:Int):cn (some s) n c=(iq (some s) c).bind fun t=>match t.2 with | none=>none | some y=>some (t.1,some y):=by
 unfold cn
 dsimp only
 rw [hk]; rfl
theorem Ds {m:ai} {c:aC} (hk:c.Kind=2) (n:Int):cr m n c=(iV m c.Hold).bind fun t921=>(((bif (t921.1==(0:Int)) then ((iP t921.2 c.Hold).bind fun t927=>(some ({Kind:=(2:Int),ID:=c.Hold.ID,R:=t927}:bh))) else (some ({Kind:=(2:Int),ID:=c.Hold.ID,R:=bI}:bh)))).bind (jF t921)):=by
 unfold cr
 rw [hk]; rfl
theorem DZ {m:ai} {c:aC} (hk:c.Kind=3) (n:Int):cr m n c=(((kI m.H c.ID).bind fun t980=>(some t980.2))).bind (ib m c):=by
 unfold cr
 rw [hk]; rfl
theorem Br {s:ae} {m:ai} {rows:List bR} {l:List al} {k:Nat} (hs:s.store=some {rows:=rows}) (hl:s.locks=some {l:=l}) (he:s.epoch=m.Epoch) (hi:Inv k rows m.V) (hk:k≤10000) (h:rb l) (hn:l.length≤900) (hp:l.Perm m.H) {c:aC} (hc:c.Kind=2) (hx:hJ c.Hold) (n:Int) :
  ∃ e e' l' H',cn (some s) n c=some (e,some (tg s l'))∧cr m n c=some (e',ye m H')∧yQ e e'∧rb l'∧l'.length≤l.length+1∧l'.Perm H':=by
 have hg:∀ y∈m.H,hJ y:=fun y hy=>h.2.2 y (hp.mem_iff.2 hy)
 have hm:m.H.length=l.length:=hp.length_eq.symm
 obtain ⟨r1,r2,r3,r4⟩:=CL h hp m.Epoch hn hx
 have q1:=EV hl h hn hx
 have q2:=EI (m:=m) (by omega) hg hx
 rw [he,r1] at q1
 have gx:asks c.Hold:=by
  obtain ⟨_,_,_,g4,g5,g6,l1,l2,_⟩:=hx
  exact ⟨g4,g5,by omega,by omega⟩
 have t1:=Fb (s:=tg s (tS m.Epoch l c.Hold).2) (rows:=rows) hs hi hk gx
 have t2:=Fh (m:=ye m (tf m.Epoch m.H c.Hold).2) (rows:=rows) hi hk gx
 have ts:=Bd hi hk gx
 rw [Dz hc,Ds hc]
 unfold je
 rw [q1,q2]
 simp only [Option.bind_some]
 cases hz:(tf m.Epoch m.H c.Hold).1==(0:Int) with
 | true =>
  have hz0:=eq_of_beq hz
  rw [t1,t2]
  simp only [cond_true,Option.bind_some]
  refine ⟨_,_,_,_,rfl,rfl,⟨rfl,rfl,?_⟩,r3,r4,r2⟩
  show eV (sc rows c.Hold) {E:=(tf m.Epoch m.H c.Hold).1,Epoch:=(nl m.V c.Hold).Epoch,Index:=(nl m.V c.Hold).Index,Gots:=(nl m.V c.Hold).Gots,Scans:=(nl m.V c.Hold).Scans}=_
  rw [show ({E:=(tf m.Epoch m.H c.Hold).1,Epoch:=(nl m.V c.Hold).Epoch,Index:=(nl m.V c.Hold).Index,Gots:=(nl m.V c.Hold).Gots,Scans:=(nl m.V c.Hold).Scans}:bp)=nl m.V c.Hold by rw [hz0]; rfl]
  exact ts
 | false =>
  simp only [cond_false,Option.bind_some]
  exact ⟨_,_,_,_,rfl,rfl,⟨rfl,rfl,tA (vL _ _ _)⟩,r3,r4,r2⟩
def yI (c:aC) (w:bN):aB:={w with Epoch:=c.Epoch,Index:=c.Index}
def yK (c:aC) (rows:List bR) (w:bN):List bR:=yF rows (ax w.At) (clr (ver (yI c w)))
def xx (c:aC) (V:List aB) (w:bN):List aB:=V.filter (fun y=>tz (ky (re (yI c w))) (re y))++[clx (yI c w)]
theorem yh {n:Nat} {c:aC} {V:List aB} {rows:List bR} (h:Inv n rows V):∀ (ws:List bN),(∀ w∈ws,xG (yI c w))→n+ws.length≤10000→Inv (n+ws.length) (ws.foldl (yK c) rows) (ws.foldl (xx c) V):=by
 intro ws
 induction ws generalizing n V rows with
 | nil=>intro _ _; exact h
 | cons w ws ih =>
  intro hg hn
  rw [List.length_cons] at hn
  have gx:=hg w (by simp)
  obtain ⟨_,m',h2,h3⟩:=AB h (by omega) gx
  have h4:=ue (fun y hy=>(h.xg y hy).1) gx.1 (by have:=h.mlen; omega) (fun y hy=>(h.xg y hy).2.1) gx.2.1
  rw [h2] at h4
  have h5:=some_inj h4
  rw [h5] at h3
  have := ih (n:=n+1) (rows:=yK c rows w) (V:=xx c V w) h3 (fun y hy=>hg y (by simp [hy])) (by omega)
  rw [List.length_cons,List.foldl_cons,List.foldl_cons]
  rw [show n+(ws.length+1)=n+1+ws.length by omega]
  exact this
theorem Cf {c:aC} {V:List aB}:∀ (ws:List bN) {y:aB},y∈ws.foldl (xx c) V→y∈V∨(y.Epoch=c.Epoch∧y.Index=c.Index):=by
 intro ws
 induction ws generalizing V with
 | nil=>intro y hy; exact .inl hy
 | cons w ws ih =>
  intro y hy
  rw [List.foldl_cons] at hy
  rcases ih hy with h | h
  ·rcases List.mem_append.1 h with h | h
   ·exact .inl (List.mem_filter.1 h).1
   ·rw [List.mem_singleton.1 h]; exact .inr ⟨rfl,rfl⟩
  ·exact .inr h
theorem rP {α β:Type} (f:β→α→β) (l:List α) {i:Nat} (hi:i<l.length) (b:β):(l.take (i+1)).foldl f b=f ((l.take i).foldl f b) l[i]:=by
 rw [List.take_succ_eq_append_getElem hi,List.foldl_append]; rfl
def tv (s:ae) (rows:List bR) (l:List al):ae:={s with store:=some {rows:=rows},locks:=some {l:=l}}
def qQ (m:ai) (V:List aB) (H:List al):ai:={m with V:=V,H:=H}
theorem CX {s:ae} {m:ai} {rows:List bR} {l:List al} {k:Nat} (hs:s.store=some {rows:=rows}) (hl:s.locks=some {l:=l}) (hi:Inv k rows m.V) (h:rb l) (hp:l.Perm m.H) {c:aC} (hc:c.Kind=3) (hid:idG c.ID) (hw:∀ w∈c.Writes,xG (yI c w)) (hk:k+c.Writes.length≤10000) (n:Int) :
  ∃ rows' V' l' H',cn (some s) n c=some ({Kind:=3,ID:=c.ID,R:=bI},some (tv s rows' l'))∧cr m n c=some ({Kind:=3,ID:=c.ID,R:=bI},qQ m V' H')∧Inv (k+c.Writes.length) rows' V'∧rb l'∧l'.length≤l.length∧l'.Perm H'∧∀ y∈V',y∈m.V∨(y.Epoch=c.Epoch∧y.Index=c.Index):=by
 have hg:∀ y∈m.H,hJ y:=fun y hy=>h.2.2 y (hp.mem_iff.2 hy)
 have hm:m.H.length=l.length:=hp.length_eq.symm
 have hn:=h.2.1
 have t':=Db h (idk c.ID)
 have p':(oG kid (idk c.ID) l).Perm (m.H.filter fun y=>kid y !=idk c.ID):=by rw [← kw h.1]; exact hp.filter _
 have l':=vp h.1 (idk c.ID)
 obtain ⟨w,e3,e4⟩:∃ w,kI m.H c.ID=some w∧w.2=hit kid (idk c.ID) l:=⟨_,xH (by omega) hg hid,by
  rw [ug h.1 hp,BH]
  cases hZ kid (idk c.ID) l <;> rfl⟩
 have d1:=drop_eq h hid
 have d2:=yY (m:=m.H) (by omega) hg hid
 rw [EX hc,DZ hc,e3]
 unfold iq
 dsimp only
 rw [hl,d1]
 simp only [Option.bind_some,e4,ib,d2]
 cases hh:hit kid (idk c.ID) l with
 | false =>
  have hr:br (du false c) (({m with H:=(m.H.filter fun x=>kid x !=idk c.ID)}:ai),(0:Int))=some (qQ m m.V (m.H.filter fun x=>kid x !=idk c.ID)):=by
   rw [eA]; rfl
  rw [hr]
  refine ⟨rows,m.V,_,_,?_,rfl,hi.up (Nat.le_add_right _ _),t',l',p',fun y hy=>.inl hy⟩
  rw [hs]; rfl
 | true =>
  cases hE:c.E==(0:Int) with
  | false =>
   have hr:br (du true c) (({m with H:=(m.H.filter fun x=>kid x !=idk c.ID)}:ai),(0:Int))=some (qQ m m.V (m.H.filter fun x=>kid x !=idk c.ID)):=by
    rw [eA]; simp only [du,hE]; rfl
   rw [hr]
   refine ⟨rows,m.V,_,_,?_,rfl,hi.up (Nat.le_add_right _ _),t',l',p',fun y hy=>.inl hy⟩
   rw [hs]; rfl
  | true =>
   have hpart:∀ i,i≤c.Writes.length→Inv (k+i) ((c.Writes.take i).foldl (yK c) rows) ((c.Writes.take i).foldl (xx c) m.V):=fun i hi'=>by
    have := yh (c:=c) hi (c.Writes.take i) (fun w hw'=>hw w (List.mem_of_mem_take hw')) (by rw [List.length_take]; omega)
    rw [List.length_take,Nat.min_eq_left hi'] at this
    exact this
   have h1:br (eQ c) (tv s rows (oG kid (idk c.ID) l),(0:Int))=some (tv s (c.Writes.foldl (yK c) rows) (oG kid (idk c.ID) l)):=by
    have := dz (body:=eQ c) (fun i=>(tv s ((c.Writes.take i).foldl (yK c) rows) (oG kid (idk c.ID) l),(i:Int))) c.Writes.length (tv s (c.Writes.foldl (yK c) rows) (oG kid (idk c.ID) l)) (fun i hi'=>by
     obtain ⟨h2,_⟩:=AB (hpart i (by omega)) (by omega) (hw _ (List.getElem_mem hi'))
     have h2:hH (tv s ((c.Writes.take i).foldl (yK c) rows) (oG kid (idk c.ID) l)).store c.Writes[i].At {c with Del:=c.Writes[i].Del,Val:=c.Writes[i].Val}=_:=h2
     simp only [eQ,gW hi',cond_true,bl hi',Option.bind_some,h2,bJ (show i≤4294967295 by omega),rP _ _ hi']
     rfl) (by simp [eQ,bt])
    simpa using this
   have h3:br (du true c) (qQ m m.V (m.H.filter fun x=>kid x !=idk c.ID),(0:Int))=some (qQ m (c.Writes.foldl (xx c) m.V) (m.H.filter fun x=>kid x !=idk c.ID)):=by
    have := dz (body:=du true c) (fun i=>(qQ m ((c.Writes.take i).foldl (xx c) m.V) (m.H.filter fun x=>kid x !=idk c.ID),(i:Int))) c.Writes.length (qQ m (c.Writes.foldl (xx c) m.V) (m.H.filter fun x=>kid x !=idk c.ID)) (fun i hi'=>by
     have hI:=hpart i (by omega)
     have gx:=hw _ (List.getElem_mem hi')
     have h4:=ue (fun y hy=>(hI.xg y hy).1) gx.1 (by have:=hI.mlen; omega) (fun y hy=>(hI.xg y hy).2.1) gx.2.1
     have h4:om (qQ m ((c.Writes.take i).foldl (xx c) m.V) (m.H.filter fun x=>kid x !=idk c.ID)).V {At:=c.Writes[i].At,Epoch:=c.Epoch,Index:=c.Index,Del:=c.Writes[i].Del,Val:=c.Writes[i].Val}=_:=h4
     simp only [du,hE,gW hi',cond_true,bl hi',Option.bind_some,h4,bJ (show i≤4294967295 by omega),rP _ _ hi']
     rfl) (by simp [du,bt,hE])
    simpa using this
   have h3':br (du true c) (({m with H:=(m.H.filter fun x=>kid x !=idk c.ID)}:ai),(0:Int))=some (qQ m (c.Writes.foldl (xx c) m.V) (m.H.filter fun x=>kid x !=idk c.ID)):=h3
   rw [h3']
   refine ⟨c.Writes.foldl (yK c) rows,_,oG kid (idk c.ID) l,_,?_,rfl,yh (c:=c) hi c.Writes hw hk,t',l',p',fun y hy=>Cf c.Writes hy⟩
   simp only [cond_true]
   rw [hs]
   rw [show ({s with store:=some {rows:=rows},locks:=some {l:=oG kid (idk c.ID) l}}:ae)=tv s rows (oG kid (idk c.ID) l) from rfl,h1]
   rfl
end Go.Proofs.YtgnkkopjkgdieaaGreat

end
section
set_option linter.unusedVariables false
set_option linter.unusedSimpArgs false
set_option maxRecDepth 100000
namespace Go.Proofs.YtgnkkopjkgdieaaGreat
open Go Go.V
def dkk (d:bA):Int:=idk d.ID
theorem Ca (d:bA) (i:bK):il d i=some (wy d.ID i):=by
 simp only [il,xN,Ct,Option.bind_some,wy]
theorem Et {s:ae} (hr:fJ dkk s.open_) (hn:s.open_.length≤1000) (hg:∀ d∈s.open_,idG d.ID) {i:bK} (hi:idG i):gC (some s) i=some (((pl dkk (idk i) s.open_:Nat):Int),hit dkk (idk i) s.open_):=by
 have hs:br (gN s i) (((s.open_.length:Nat):Int),(0:Int))=some ((lb (lo dkk (idk i)) s.open_:Nat):Int):=by
  refine pX (R:=Int) s.open_ (lo dkk (idk i)) (by omega) (hr.ahd (idk i)) (fun a j k hk hij hke hj=>?_) (fun a j hij=>?_)
  ·have e1:decide ((a:Int)<(j:Int))=true:=by simpa using hij
   have e2:=tu (i:=a) (j:=j) (by omega)
   rw [← hke] at e2
   simp only [gN,e1,cond_true,e2,bl hk,Option.bind_some,Ca]
   have e4:decide (wy s.open_[k].ID i<0)=lo dkk (idk i) s.open_[k]:=by
    unfold lo
    rw [decide_eq_decide]
    exact AO (hg _ (List.getElem_mem hk)) hi
   rw [e4,bJ (show k≤4294967295 by omega)]
   cases lo dkk (idk i) s.open_[k] <;> rfl
  ·have e1:decide ((a:Int)<(j:Int))=false:=by simpa using hij
   simp only [gN,e1,cond_false,bt,Option.map_some]
 unfold gC
 dsimp only
 rw [hs]
 simp only [Option.bind_some,kK]
 rw [show lb (lo dkk (idk i)) s.open_=pl dkk (idk i) s.open_ from rfl]
 unfold hit
 by_cases hk:pl dkk (idk i) s.open_<s.open_.length
 ·rw [gW hk,cond_true,bl hk,Option.bind_some]
  simp only [Ca,Option.bind_some,List.getElem?_eq_getElem hk]
  congr 2
  rw [Bool.eq_iff_iff]
  simp only [beq_iff_eq]
  exact CP (hg _ (List.getElem_mem hk)) hi
 ·have e1:decide (((pl dkk (idk i) s.open_:Nat):Int)<(s.open_.length:Int))=false:=by simpa using hk
  rw [e1,cond_false,List.getElem?_eq_none (by omega)]
  rfl
theorem Ac {m:ai} (hn:m.Open.length≤1000) (hg:∀ d∈m.Open,idG d.ID) {i:bK} (hi:idG i):fB m i=some {m with Open:=m.Open.filter (fun d=>dkk d !=idk i)}:=by
 have h:=lc (body:=fj m i) m.Open (fun d=>dkk d !=idk i) (fun d=>d) (fun out=>out) (fun a ha out ho=>by
  have g:=hg _ (List.getElem_mem ha)
  simp only [fj,gW ha,cond_true,bl ha,Option.bind_some,sw g hi,db (fa (x:=m.Open[a]) (show out.length≤1073741823 by omega)),bJ (show a≤4294967295 by omega)]
  show (bif !(dkk m.Open[a]==idk i) then _ else _)=_
  simp only [bne]
  cases dkk m.Open[a]==idk i <;> rfl) (fun out _=>by simp [fj,bt])
 rw [List.map_id'] at h
 rw [fB,h,Option.bind_some,jq]
def uk (u:ct):Int:=u.kj
def cu (u:ct):dy:={Rule:=u.kj,Epoch:=u.epoch,N:=u.n}
theorem BQ (u:ct) (r:Int):ik u r=some (sg u.kj r):=by simp only [ik,xN,Option.bind_some]
theorem FC {s:ae} (hr:fJ uk s.used) (hn:s.used.length≤1000) (c:aC):(br (fF s c) (((s.used.length:Nat):Int),(0:Int))).bind (iY s c)=some (((pl uk c.Rule.ID s.used:Nat):Int),hit uk c.Rule.ID s.used):=by
 have hs:br (fF s c) (((s.used.length:Nat):Int),(0:Int))=some ((lb (lo uk c.Rule.ID) s.used:Nat):Int):=by
  refine pX (R:=Int) s.used (lo uk c.Rule.ID) (by omega) (hr.ahd c.Rule.ID) (fun a j k hk hij hke hj=>?_) (fun a j hij=>?_)
  ·have e1:decide ((a:Int)<(j:Int))=true:=by simpa using hij
   have e2:=tu (i:=a) (j:=j) (by omega)
   rw [← hke] at e2
   simp only [fF,e1,cond_true,e2,bl hk,Option.bind_some,BQ]
   have e4:decide (sg s.used[k].kj c.Rule.ID<0)=lo uk c.Rule.ID s.used[k]:=by
    unfold lo
    rw [decide_eq_decide]
    exact Cq
   rw [e4,bJ (show k≤4294967295 by omega)]
   cases lo uk c.Rule.ID s.used[k] <;> rfl
  ·have e1:decide ((a:Int)<(j:Int))=false:=by simpa using hij
   simp only [fF,e1,cond_false,bt,Option.map_some]
 rw [hs]
 simp only [Option.bind_some,iY]
 rw [show lb (lo uk c.Rule.ID) s.used=pl uk c.Rule.ID s.used from rfl]
 unfold hit
 by_cases hk:pl uk c.Rule.ID s.used<s.used.length
 ·rw [gW hk,cond_true,bl hk,Option.bind_some]
  simp only [BQ,Option.bind_some,List.getElem?_eq_getElem hk]
  congr 2
  rw [Bool.eq_iff_iff]
  simp only [beq_iff_eq]
  exact BA
 ·have e1:decide (((pl uk c.Rule.ID s.used:Nat):Int)<(s.used.length:Int))=false:=by simpa using hk
  rw [e1,cond_false,List.getElem?_eq_none (by omega)]
def rn (id ep acc:Int) (u:dy):Int:=bif u.Rule !=id then acc else bif u.Epoch==ep then u.N else acc
theorem sE {id ep:Int}:∀ {l:List dy} {acc:Int},(∀ u∈l,u.Rule≠id)→l.foldl (rn id ep) acc=acc
 | [],_,_=>rfl
 | u::l,acc,h=>by
  have h1:(u.Rule !=id)=true:=by simpa using h u (by simp)
  rw [List.foldl_cons,show rn id ep acc u=acc by unfold rn; rw [h1]; rfl]
  exact sE fun v hv=>h v (by simp [hv])
theorem FH {m:ai} (hn:m.Used.length≤1000) (c:aC):br (fg m c) ((0:Int),(0:Int),[])=some (m.Used.foldl (rn c.Rule.ID c.Epoch) 0,m.Used.filter fun u=>u.Rule !=c.Rule.ID):=by
 have h:=dz (body:=fg m c) (fun i=>((m.Used.take i).foldl (rn c.Rule.ID c.Epoch) 0,(i:Int),(m.Used.take i).filter fun u=>u.Rule !=c.Rule.ID)) m.Used.length (m.Used.foldl (rn c.Rule.ID c.Epoch) 0,m.Used.filter fun u=>u.Rule !=c.Rule.ID) (fun i hi=>by
  have hl:=List.length_filter_le (fun u:dy=>u.Rule !=c.Rule.ID) (m.Used.take i)
  rw [List.length_take] at hl
  simp only [fg,gW hi,cond_true,bl hi,Option.bind_some,bJ (show i≤4294967295 by omega),rP _ _ hi]
  rw [List.take_succ_eq_append_getElem hi,List.filter_append,List.filter_cons,List.filter_nil,db (fa (by omega))]
  unfold rn
  cases m.Used[i].Rule !=c.Rule.ID with
  | true=>rfl
  | false=>cases m.Used[i].Epoch==c.Epoch <;> simp) (by simp [fg,bt])
 simpa using h
def rE (l:List ct) (id ep:Int):Int:=match hZ uk id l with | some u=>bif u.epoch==ep then u.n else 0 | none=>0
theorem CF {l:List ct} {U:List dy} (hr:fJ uk l) (hp:(l.map cu).Perm U) (id ep:Int):U.foldl (rn id ep) 0=rE l id ep:=by
 unfold rE
 cases e:hZ uk id l with
 | none =>
  refine sE fun u hu=>?_
  obtain ⟨x,hx,rfl⟩:=List.mem_map.1 (hp.mem_iff.2 hu)
  exact (ul hr).1 e x hx
 | some x =>
  obtain ⟨h1,h2⟩:=(kl hr).1 e
  have hxU:cu x∈U:=hp.mem_iff.1 (List.mem_map_of_mem h1)
  have hnd:(U.map (·.Rule)).Nodup:=by
   have h3:((l.map cu).map (·.Rule)).Nodup:=by
    rw [List.map_map]
    exact List.pairwise_map.2 (List.Pairwise.imp (fun {a b} h=>fun e=>by have:uk a=uk b:=e; omega) hr)
   exact ((hp.map (·.Rule)).nodup_iff).1 h3
  obtain ⟨A,B,rfl⟩:=List.append_of_mem hxU
  rw [List.map_append,List.map_cons] at hnd
  have hA:∀ u∈A,u.Rule≠id:=fun u hu e=>by
   have := (List.nodup_append.1 hnd).2.2 u.Rule (List.mem_map_of_mem hu) (cu x).Rule (by simp)
   exact this (e.trans h2.symm)
  have hB:∀ u∈B,u.Rule≠id:=fun u hu e=>by
   have h5:=(List.nodup_cons.1 (List.nodup_append.1 hnd).2.1).1
   exact h5 (List.mem_map.2 ⟨u,hu,e.trans h2.symm⟩)
  have h2':((cu x).Rule !=id)=false:=by
   have : (cu x).Rule=id:=h2
   simp [this]
  rw [List.foldl_append,List.foldl_cons,sE hA,sE hB]
  unfold rn
  rw [h2']
  rfl
def Ft (d:bA):Prop:=idG d.ID∧d.Parts.length≤8∧∀ p∈d.Parts,qY p.Writes
structure LP (k:Nat) (s:ae) (m:ai):Prop where
 wd : s.wide=m.Wide
 wb : s.wide≤1000000
 ep : s.epoch=m.Epoch
 e1 : 1≤s.epoch
 e2 : s.epoch≤5
 st : ∃ rows,s.store=some {rows:=rows}∧Inv (32*k) rows m.V
 lk : ∃ l,s.locks=some {l:=l}∧rb l∧l.length≤k∧l.Perm m.H
 la : ∃ t,s.last=some {l:=t}∧ff t∧t.length≤k∧Rel t m.A∧CD t∧∀ d∈s.open_,d.ID.Seq≤dD d.ID.Session t
 bk : ∃ b,s.book=some b∧m.B=b.l.map dA∧b.l.length≤k∧∀ x∈b.l,rD x.r
 op : fJ dkk s.open_∧s.open_.length≤k∧s.open_.Perm m.Open∧∀ d∈s.open_,Ft d
 ou : m.Out=s.out∧s.out.length≤k∧∀ x∈s.out,isF x.W.At
 us : fJ uk s.used∧s.used.length≤k∧(s.used.map cu).Perm m.Used∧∀ u∈s.used,0≤u.n∧u.n≤k
theorem LP.up {k:Nat} {s:ae} {m:ai} (h:LP k s m):LP (k+1) s m:=by
 obtain ⟨wd,wb,ep,e1,e2,⟨rows,a1,a2⟩,⟨l,b1,b2,b3,b4⟩,⟨t,c1,c2,c3,c4⟩,⟨b,d1,d2,d3,d4⟩,⟨o1,o2,o3⟩,⟨p1,p2,p3⟩,⟨u1,u2,u3,u4⟩⟩:=h
 exact ⟨wd,wb,ep,e1,e2,⟨rows,a1,a2.up (by omega)⟩,⟨l,b1,b2,by omega,b4⟩,⟨t,c1,c2,by omega,c4⟩,⟨b,d1,d2,by omega,d4⟩,⟨o1,by omega,o3⟩,⟨p1,by omega,p3⟩,⟨u1,by omega,u3,fun u hu=>by have:=u4 u hu; omega⟩⟩
def Step (k:Nat) (s:ae) (m:ai) (n:Int) (c:aC):Prop:=∃ e e' s' m',cn (some s) n c=some (e,some s')∧cr m n c=some (e',m')∧yQ e e'∧LP (k+1) s' m'
theorem vT:okR bG.R:=vL 0 0 0
theorem Ey {s:ae} {l:List al} (hl:s.locks=some {l:=l}) (hn:l.length≤1000):jc (some s)=some (!(l.any fun x=>decide (x.Epoch≤s.epoch))):=by
 show (eJ s.locks s.epoch).bind _=_
 rw [hl,Cl hn]; rfl
theorem Ev {m:ai} (hn:m.H.length≤1000):iA m=some (!(m.H.any fun x=>decide (x.Epoch≤m.Epoch))):=by
 have h:=nO (body:=gJ m) m.H (fun x=>decide (x.Epoch≤m.Epoch)) false true (fun i hi=>by
  simp only [gJ,gW hi,cond_true,bl hi,Option.bind_some,bJ (show i≤4294967295 by omega)]
  cases decide (m.H[i].Epoch≤m.Epoch) <;> rfl) (by simp [gJ,bt])
 rw [iA,h]
 cases m.H.any fun x=>decide (x.Epoch≤m.Epoch) <;> rfl
theorem zI {k:Nat} {s:ae} {m:ai} (h:LP k s m) (hk:k≤100) {c:aC} (hc:c.Kind=1) (he:c.Epoch≤4) (n:Int):Step k s m n c:=by
 obtain ⟨l,b1,b2,b3,b4⟩:=h.lk
 have q1:=Ey b1 (by omega)
 have q2:=Ev (m:=m) (by have:=b4.length_eq; omega)
 rw [vw b4,h.ep] at q1
 have hA:cn (some s) n c=(iy (some s) c).bind fun t=>match t.2 with | none=>none | some y=>some (t.1,some y):=by
  unfold cn
  dsimp only
  rw [hc]; rfl
 have hM:cr m n c=(bif (c.Epoch !=m.Epoch) then (some (bG,m)) else ((iA m).bind fun t850=>(bif (!t850) then (some (bG,m)) else (bif (decide ((IntKind.u64.wrap (m.Epoch+(1:Int)))>(9:Int))) then none else (some (({Kind:=(1:Int),ID:=({Session:=(0:Int),Seq:=(0:Int)}:bK),R:=bI}:bh),({m with Epoch:=(IntKind.u64.wrap (m.Epoch+(1:Int)))}:ai))))))):=by
  unfold cr
  rw [hc]; rfl
 unfold Step
 rw [hA,hM]
 unfold iy
 dsimp only
 rw [h.ep]
 cases hE:c.Epoch !=m.Epoch with
 | true=>exact ⟨_,_,_,_,rfl,rfl,gT vT,h.up⟩
 | false =>
  have hEq:c.Epoch=m.Epoch:=by simpa using hE
  rw [q1,q2]
  simp only [cond_false,Option.bind_some]
  cases m.H.any fun x=>decide (x.Epoch≤m.Epoch) with
  | true=>exact ⟨_,_,_,_,rfl,rfl,gT vT,h.up⟩
  | false =>
   have w:IntKind.u64.wrap (m.Epoch+(1:Int))=m.Epoch+1:=by
    have := h.e1; have:=h.e2; have:=h.ep
    rw [mE] <;> omega
   have d:decide (m.Epoch+1>(9:Int))=false:=decide_eq_false (by omega)
   rw [w,d]
   refine ⟨_,_,_,_,rfl,rfl,gT (vL 0 0 0),?_⟩
   obtain ⟨wd,wb,ep,e1,e2,a,b,cc,dd,o,p,u⟩:=h.up
   exact ⟨wd,wb,rfl,by show 1≤m.Epoch+1; omega,by show m.Epoch+1≤5; omega,a,b,cc,dd,o,p,u⟩
theorem Bx {k:Nat} {s:ae} {m:ai} (h:LP k s m) (hk:k≤100) {c:aC} (hc:c.Kind=2) (hx:hJ c.Hold) (n:Int):Step k s m n c:=by
 obtain ⟨rows,a1,a2⟩:=h.st
 obtain ⟨l,b1,b2,b3,b4⟩:=h.lk
 obtain ⟨e,e',l',H',q1,q2,q3,q4,q5,q6⟩:=Br a1 b1 h.ep a2 (by omega) b2 (by omega) b4 hc hx n
 obtain ⟨wd,wb,ep,e1,e2,a,b,cc,dd,o,p,u⟩:=h.up
 exact ⟨e,e',_,_,q1,q2,q3,wd,wb,ep,e1,e2,a,⟨l',rfl,q4,by omega,q6⟩,cc,dd,o,p,u⟩
theorem xW {x:Int} (h:isU 8 x):0≤x∧x<18446744073709551616:=by
 obtain ⟨a,b⟩:=h
 rw [pw8] at b
 exact ⟨a,by omega⟩
theorem BS {k:Nat} {s:ae} {m:ai} (h:LP k s m) (hk:k≤100) {c:aC} (hc:c.Kind=3) (g:Df c) (n:Int):Step k s m n c:=by
 obtain ⟨rows,a1,a2⟩:=h.st
 obtain ⟨l,b1,b2,b3,b4⟩:=h.lk
 obtain ⟨_,gid,ge,gi,_,_,gw,_⟩:=g
 have hep:=xW ge
 have hix:=xW gi
 have hwl:=gw.1
 obtain ⟨rows',V',l',H',q1,q2,q3,q4,q5,q6,_⟩:=CX a1 b1 a2 b2 b4 hc gid (fun w hw=>by
  have g:=gw.2 w hw
  exact ⟨g.1,⟨hep.1,hep.2,hix.1,hix.2⟩,g.2.1,g.2.2⟩) (by omega) n
 obtain ⟨wd,wb,ep,e1,e2,a,b,cc,dd,o,p,u⟩:=h.up
 exact ⟨_,_,_,_,q1,q2,gT (vL 0 0 0),wd,wb,ep,e1,e2,⟨rows',rfl,q3.up (by omega)⟩,⟨l',rfl,q4,by omega,q6⟩,cc,dd,o,p,u⟩
theorem yT {k:Nat} {s:ae} {m:ai} (h:LP k s m) (hk:k≤100) {c:aC} (hc:c.Kind=5) (hi:idG c.ID) (n:Int):Step k s m n c:=by
 obtain ⟨o1,o2,o3,o4⟩:=h.op
 obtain ⟨t,c1,c2,c3,c4,c5,c6⟩:=h.la
 have hf:=Et o1 (by omega) (fun d hd=>(o4 d hd).1) hi
 have hm:=Ac (m:=m) (by have:=o3.length_eq; omega) (fun d hd=>(o4 d (o3.mem_iff.2 hd)).1) hi
 have hA:cn (some s) n c=(gC (some s) c.ID).bind fun t304=>(bif t304.2 then ((dn s.open_ t304.1 (IntKind.i64.wrap (t304.1+(1:Int)))).bind fun t326=>(some (bG,(some ({s with open_:=t326}:ae))))) else (some (bG,(some s)))):=by
  unfold cn
  dsimp only
  rw [hc]; rfl
 have hM:cr m n c=(fB m c.ID).bind fun t=>some (bG,t):=by
  unfold cr
  rw [hc]; rfl
 have hdel:∃ s',cn (some s) n c=some (bG,some s')∧s'={s with open_:=oG dkk (idk c.ID) s.open_}:=by
  rw [hA,hf,Option.bind_some]
  dsimp only
  cases hh:hit dkk (idk c.ID) s.open_ with
  | false =>
   have e:oG dkk (idk c.ID) s.open_=s.open_:=by unfold oG pr; rw [hh,cond_false,List.take_append_drop]
   rw [e]
   exact ⟨s,rfl,rfl⟩
  | true =>
   obtain ⟨hk2,h3,h4⟩:=jI hh
   have hfit:fits s.open_ ((pl dkk (idk c.ID) s.open_:Nat):Int) ((pl dkk (idk c.ID) s.open_+1:Nat):Int)=true:=by simp [fits]; omega
   rw [cond_true,bJ (show pl dkk (idk c.ID) s.open_≤4294967295 by omega),dn,db hfit,Option.bind_some,Ax hh]
   exact ⟨_,rfl,rfl⟩
 obtain ⟨s',hs1,hs2⟩:=hdel
 subst hs2
 have hmem:∀ d∈oG dkk (idk c.ID) s.open_,d∈s.open_:=fun d hd=>by
  rw [← kw o1] at hd
  exact (List.mem_filter.1 hd).1
 have hlen:=vp o1 (idk c.ID)
 obtain ⟨wd,wb,ep,e1,e2,a,b,cc,dd,o,p,u⟩:=h.up
 have hs2:cr m n c=some (bG,{m with Open:=m.Open.filter (fun d=>dkk d !=idk c.ID)}):=by rw [hM,hm]; rfl
 refine ⟨_,_,_,_,hs1,hs2,gT vT,wd,wb,ep,e1,e2,a,b,⟨t,c1,c2,by omega,c4,c5,fun d hd=>c6 d (hmem d hd)⟩,dd,⟨wJ o1 _,by show (oG dkk (idk c.ID) s.open_).length≤_; omega,?_,fun d hd=>o4 d (hmem d hd)⟩,p,u⟩
 show (oG dkk (idk c.ID) s.open_).Perm (m.Open.filter fun d=>dkk d !=idk c.ID)
 rw [← kw o1]; exact o3.filter _
theorem zt {k:Nat} {s:ae} {m:ai} (h:LP k s m) (hk:k≤100) {c:aC} (hc:c.Kind=6) (hr:zW c.Rule) (n:Int):Step k s m n c:=by
 obtain ⟨b,d1,d2,d3,d4⟩:=h.bk
 have he0:0≤s.epoch:=by have:=h.e1; omega
 have q1:=uH b c.Rule.ID s.epoch (by omega)
 have q2:=zg b c.Rule s.epoch (by omega)
 have q3:=vK b.l c.Rule.ID s.epoch he0 (by omega)
 rw [← d2,h.ep] at q3
 rw [h.ep] at q1 q2
 have hA:cn (some s) n c=(bif c.On then ((fW s.book c.Rule s.epoch).bind fun t349=>(some (bG,(some ({s with book:=t349}:ae))))) else ((eS s.book c.Rule.ID s.epoch).bind fun t360=>(some (bG,(some ({s with book:=t360.2}:ae)))))):=by
  unfold cn
  dsimp only
  rw [hc]; rfl
 have hM:cr m n c=(mh m.B c.Rule.ID m.Epoch).bind fun t1281=>(bif c.On then (gd (room t1281.1 ([({R:=c.Rule,From:=m.Epoch,To:=(0:Int)}:cD)])) (some (bG,({m with B:=(t1281.1++([({R:=c.Rule,From:=m.Epoch,To:=(0:Int)}:cD)]))}:ai)))) else (some (bG,({m with B:=t1281.1}:ai)))):=by
  unfold cr
  rw [hc]; rfl
 have hrv:∀ x∈b.l.map (fX c.Rule.ID m.Epoch),rD x.r:=fun x hx=>by
  obtain ⟨y,hy,rfl⟩:=List.mem_map.1 hx
  have : (fX c.Rule.ID m.Epoch y).r=y.r:=by unfold fX; cases nm c.Rule.ID y <;> rfl
  rw [this]; exact d4 y hy
 unfold Step
 rw [hA,hM,q3,d1,h.ep,q1,q2]
 obtain ⟨wd,wb,ep,e1,e2,a,bb,cc,dd,o,p,u⟩:=h.up
 cases c.On with
 | false =>
  refine ⟨_,_,_,_,rfl,rfl,gT vT,wd,wb,rfl,by rw [← h.ep]; exact e1,by rw [← h.ep]; exact e2,a,bb,cc,⟨_,rfl,rfl,?_,hrv⟩,o,p,u⟩
  show (b.l.map (fX c.Rule.ID m.Epoch)).length≤_
  rw [List.length_map]; omega
 | true =>
  have hroom:room ((b.l.map (fX c.Rule.ID m.Epoch)).map dA) [({R:=c.Rule,From:=m.Epoch,To:=(0:Int)}:cD)]=true:=fa (by rw [List.length_map,List.length_map]; omega)
  simp only [Option.bind_some,cond_true,db hroom]
  refine ⟨_,_,_,_,rfl,rfl,gT vT,wd,wb,rfl,by rw [← h.ep]; exact e1,by rw [← h.ep]; exact e2,a,bb,cc,⟨_,rfl,?_,?_,fun x hx=>?_⟩,o,p,u⟩
  ·show _=(b.l.map (fX c.Rule.ID m.Epoch)++[({r:=c.Rule,from_:=m.Epoch,to_:=0}:df)]).map dA
   rw [List.map_append]; rfl
  ·show (b.l.map (fX c.Rule.ID m.Epoch)++[_]).length≤_
   rw [List.length_append,List.length_map,List.length_singleton]; omega
  ·rcases List.mem_append.1 hx with hx | hx
   ·exact hrv x hx
   ·rw [List.mem_singleton.1 hx]; exact ⟨hr.2.2.2.1,hr.2.2.2.2.1⟩
theorem xm {t:List aN} (h:ff t) (s q:Int) (r:bp) (x:Int):dD x (mm t (nH s q r))=if x=s then q else dD x t:=by
 unfold dD
 rw [zj h]
 by_cases hx:x=s
 ·rw [if_pos (show x=(nH s q r).session from hx),if_pos hx]; rfl
 ·rw [if_neg (show ¬ x=(nH s q r).session from hx),if_neg hx]
def qF (t:List aN) (i:bK):Int:=if i.Seq=0 then 1 else if dD i.Session t≥i.Seq then 10 else 0
theorem xn {t:List aN} {A:List cq} (hr:ff t) (hn:t.length≤1000) (hrel:Rel t A) {i:bK} (hi:0≤i.Seq) (r:bp) :
  fi (some {l:=t}) i.Session i.Seq r=some (qF t i,some {l:=if qF t i=0 then mm t (nH i.Session i.Seq r) else t})∧ng A i.Session i.Seq r=some (if qF t i=0 then an (nH i.Session i.Seq r)::A.filter (fun a=>a.Session !=i.Session) else A,qF t i):=by
 have h1:=CO hr (by omega) i.Session i.Seq r hi
 have h2:=DQ hr hrel (by omega) i.Session i.Seq r
 rw [h1,h2]
 unfold qF
 by_cases h0:i.Seq=0
 ·simp [h0]
 ·by_cases h5:dD i.Session t≥i.Seq
  ·simp [h0,h5]
  ·simp [h0,h5]
theorem AY {s:ae} {t:List aN} {A:List cq} (hs:s.last=some {l:=t}) (hr:ff t) (hn:t.length≤1000) (hrel:Rel t A) (i:bK) :
  iw (some s) i=some (if dD i.Session t>i.Seq then {Kind:=4,ID:=i,R:={E:=10,Epoch:=0,Index:=0,Gots:=[],Scans:=[]}} else bG)∧∃ a,iC A i.Session=some a∧a.Seq=dD i.Session t:=by
 refine ⟨?_,_,vM hr hrel (by omega) i.Session,by unfold dD; cases fC i.Session t <;> rfl⟩
 show (en s.last i.Session).bind _=_
 rw [hs,xe hr (by omega),Option.bind_some]
 by_cases h:dD i.Session t>i.Seq
 ·have : decide (dD i.Session t≤i.Seq)=false:=decide_eq_false (by omega)
  rw [this,if_pos h]; rfl
 ·have : decide (dD i.Session t≤i.Seq)=true:=decide_eq_true (by omega)
  rw [this,if_neg h]; rfl
theorem CK (n:Int) (i:bK) (p:Prop) [Decidable p]:okR (if p then ({Kind:=4,ID:=i,R:={E:=10,Epoch:=0,Index:=0,Gots:=[],Scans:=[]}}:bh) else bG).R:=by
 split
 ·exact vL 10 0 0
 ·exact vT
end Go.Proofs.YtgnkkopjkgdieaaGreat

end
section
set_option linter.unusedVariables false
set_option linter.unusedSimpArgs false
set_option maxRecDepth 100000
namespace Go.Proofs.YtgnkkopjkgdieaaGreat
open Go Go.V
theorem CV {R:Type} (x y:Bool) (A:Option R) (f:Unit→Option R):iJ (bif x then (bif y then bt A else some (Sum.inl ())) else some (Sum.inl ())) f=bif (x&&y) then A else f ():=by
 cases x <;> cases y <;> cases A <;> rfl
def xT (E:Int) (c:aC):Int×List cp×List (List bM):=bif c.R.E==(0:Int) then (bif c.Epoch !=E then (9,[],[]) else (c.R.E,c.R.Gots,c.R.Scans)) else (c.R.E,c.R.Gots,c.R.Scans)
theorem DN (E:Int) {c:aC} (h:wh c.R) (n:Int):okR {E:=(xT E c).1,Epoch:=c.Epoch,Index:=n,Gots:=(xT E c).2.1,Scans:=(xT E c).2.2}:=by
 have h1:=Ff h
 have h2:okR {c.R with Epoch:=c.Epoch,Index:=n}:=⟨h1.1,h1.2.1,h1.2.2⟩
 unfold xT
 cases c.R.E==(0:Int) with
 | false=>exact h2
 | true =>
  cases c.Epoch !=E with
  | false=>exact h2
  | true=>exact vL _ _ _
theorem ve {s:ae} {t:List aN} (h:s.last=some {l:=t}):({s with last:=some {l:=t}}:ae)=s:=by
 obtain ⟨w,e,st,lk,la,bk,op,o,u⟩:=s
 dsimp only at h
 subst h; rfl
theorem xi {k:Nat} {s:ae} {m:ai} (h:LP k s m) {t:List aN} (c1:s.last=some {l:=t}) (c2:ff t) (c3:t.length≤1000) (c4:Rel t m.A) (i:bK) :
  ∃ e,iw (some s) i=some e∧((iC m.A i.Session).bind fun a=>(bif (decide (a.Seq>i.Seq)) then (some (({Kind:=(4:Int),ID:=i,R:=({E:=(10:Int),Epoch:=(0:Int),Index:=(0:Int),Gots:=[],Scans:=[]}:bp)}:bh),m)) else (some (bG,m))))=some (e,m)∧yQ e e:=by
 obtain ⟨h1,a,h2,h3⟩:=AY c1 c2 c3 c4 i
 refine ⟨_,h1,?_,gT (CK 0 i _)⟩
 rw [h2,Option.bind_some,h3]
 by_cases hx:dD i.Session t>i.Seq
 ·rw [decide_eq_true hx,if_pos hx]; rfl
 ·rw [decide_eq_false hx,if_neg hx]; rfl
theorem yz {k:Nat} {s:ae} {m:ai} (h:LP k s m) (hk:k≤100) {c:aC} (hc:c.Kind=4) (g:Df c) (n:Int):Step k s m n c:=by
 obtain ⟨t,c1,c2,c3,c4,c5,c6⟩:=h.la
 obtain ⟨o1,o2,o3,o4⟩:=h.op
 obtain ⟨_,gid,_,_,_,_,_,gr,_,gp,gps,_⟩:=g
 have hseq:=(xW gid.2).1
 have hA:cn (some s) n c=(fO (some s) n c).bind fun t=>match t.2 with | none=>none | some y=>some (t.1,some y):=by
  unfold cn
  dsimp only
  rw [hc]; rfl
 have hM:cr m n c=(gU m n c).bind fun t=>some (t.1,t.2):=by
  unfold cr
  rw [hc]; rfl
 have hdA:fO (some s) n c=gZ c s n (xT s.epoch c):=by
  unfold fO xT
  dsimp only
  cases c.R.E==(0:Int) with
  | false=>rfl
  | true=>cases c.Epoch !=s.epoch <;> rfl
 have hdM:gU m n c=gG c m n (xT m.Epoch c):=by
  unfold gU xT
  cases c.R.E==(0:Int) with
  | false=>rfl
  | true=>cases c.Epoch !=m.Epoch <;> rfl
 have hok:=DN m.Epoch gr n
 unfold Step
 rw [hA,hM,hdA,hdM,h.ep]
 generalize xT m.Epoch c=q at hok
 obtain ⟨E',G,S⟩:=q
 dsimp only at hok
 simp only [gZ,gG,CV]
 cases hb:(E' !=(0:Int))&&decide (c.ID.Session≥(9223372036854775808:Int)) with
 | true=>exact ⟨_,_,_,_,rfl,rfl,gT vT,h.up⟩
 | false =>
  simp only [cond_false]
  obtain ⟨p1,p2⟩:=xn c2 (by omega) c4 hseq ({E:=E',Epoch:=c.Epoch,Index:=n,Gots:=G,Scans:=S}:bp)
  have hsl:=ve c1
  simp only [jK,jn,c1,p1,p2,Option.bind_some]
  by_cases hz:qF t c.ID=0
  ·have b0:(qF t c.ID !=(0:Int))=false:=by simpa using hz
   rw [b0,if_pos hz,if_pos hz]
   simp only [cond_false]
   have hlt:c.ID.Seq≠0∧dD c.ID.Session t<c.ID.Seq:=by
    unfold qF at hz
    by_cases h0:c.ID.Seq=0
    ·rw [if_pos h0] at hz; cases hz
    ·rw [if_neg h0] at hz
     by_cases h1:dD c.ID.Session t≥c.ID.Seq
     ·rw [if_pos h1] at hz; cases hz
     ·omega
   obtain ⟨T,hT⟩:∃ T,T=mm t (nH c.ID.Session c.ID.Seq {E:=E',Epoch:=c.Epoch,Index:=n,Gots:=G,Scans:=S}):=⟨_,rfl⟩
   obtain ⟨A',hA'⟩:∃ A',A'=an (nH c.ID.Session c.ID.Seq {E:=E',Epoch:=c.Epoch,Index:=n,Gots:=G,Scans:=S})::m.A.filter (fun a=>a.Session !=c.ID.Session):=⟨_,rfl⟩
   rw [← hT,← hA']
   have r1:ff T:=by rw [hT]; exact oH c2 _
   have r2:T.length≤k+1:=by rw [hT]; have:=vd c2 (nH c.ID.Session c.ID.Seq {E:=E',Epoch:=c.Epoch,Index:=n,Gots:=G,Scans:=S}); omega
   have r3:Rel T A':=by rw [hT,hA']; exact xb c2 c4 _
   have r4:CD T:=by rw [hT]; exact yk c2 c5 ⟨hok,by show 0<c.ID.Seq; omega⟩
   have r5:∀ x,dD x T=if x=c.ID.Session then c.ID.Seq else dD x t:=fun x=>by rw [hT]; exact xm c2 _ _ _ x
   have r6:∀ d∈s.open_,d.ID.Seq≤dD d.ID.Session T:=fun d hd=>by
    have := c6 d hd
    rw [r5]
    split
    ·rename_i e; rw [e] at this; omega
    ·exact this
   obtain ⟨wd,wb,ep,e1,e2,a,b,cc,dd,o,p,u⟩:=h.up
   cases hs:c.Shards !=(0:Int) with
   | false=>exact ⟨_,_,_,_,rfl,rfl,gT hok,wd,wb,ep,e1,e2,a,b,⟨T,rfl,r1,r2,r3,r4,r6⟩,dd,o,p,u⟩
   | true =>
    simp only [cond_true]
    obtain ⟨P,hP⟩:∃ P,P=bif E'==(0:Int) then c.Parts else []:=⟨_,rfl⟩
    have hp1:(bif E'==(0:Int) then (dZ c.Parts).bind fun t416=>some t416 else some [])=some P:=by
     rw [hP]
     cases E'==(0:Int) with
     | false=>rfl
     | true =>
      have : dZ c.Parts=some c.Parts:=db (jH (by simp only [List.length_nil]; omega))
      rw [this]; rfl
    have hp2:(bif E'==(0:Int) then some c.Parts else some [])=some P:=by rw [hP]; cases E'==(0:Int) <;> rfl
    have gP:P.length≤8∧∀ p∈P,qY p.Writes:=by
     rw [hP]
     cases E'==(0:Int) with
     | false=>exact ⟨Nat.zero_le _,fun p hp=>by cases hp⟩
     | true=>exact ⟨gp,fun p hp=>(gps p hp).2⟩
    have hmiss:hit dkk (idk c.ID) s.open_=false:=by
     cases hh:hit dkk (idk c.ID) s.open_ with
     | false=>rfl
     | true =>
      obtain ⟨hk2,h3,_⟩:=jI hh
      have hm2:=List.getElem_mem hk2
      have h4:s.open_[pl dkk (idk c.ID) s.open_].ID=c.ID:=(zD (o4 _ hm2).1 gid).1 h3
      have h5:=c6 _ hm2
      rw [h4] at h5
      omega
    obtain ⟨D,hD⟩:∃ D:bA,D={c with E:=E',Index:=n,Parts:=P}:=⟨_,rfl⟩
    have hDk:dkk D=idk c.ID:=by rw [hD]; rfl
    have hf:=Et (s:={s with last:=some {l:=T}}) o1 (by show s.open_.length≤_; omega) (fun d hd=>(o4 d hd).1) gid
    have hins:dm s.open_ ((pl dkk (idk c.ID) s.open_:Nat):Int) [D]=some (kq dkk s.open_ D):=by
     have h1:=rN (k:=dkk) (l:=s.open_) (x:=D) (by rw [hDk]; exact hmiss)
     rw [hDk] at h1
     unfold dm
     rw [db (rZ (x:=D) (idk c.ID) (by omega)),h1]
    have hfo:=Ac (m:={m with A:=A'}) (by show m.Open.length≤_; have:=o3.length_eq; omega) (fun d hd=>(o4 d (o3.mem_iff.2 hd)).1) gid
    have hl:=List.length_filter_le (fun d:bA=>dkk d !=idk c.ID) m.Open
    have hlen:=o3.length_eq
    rw [hp1,hp2]
    simp only [Option.bind_some,jO,hf,hfo,← hD,hins,jl,jJ,jm]
    rw [db (fa (by omega))]
    have hpl:=rB o1 D
    refine ⟨_,_,_,_,rfl,rfl,gT hok,wd,wb,ep,e1,e2,a,b,⟨T,rfl,r1,r2,r3,r4,fun d hd=>?_⟩,dd,⟨po o1 D,by show (kq dkk s.open_ D).length≤_; omega,?_,fun d hd=>?_⟩,p,u⟩
    ·rcases (kW o1 D d).1 hd with rfl | ⟨h1,_⟩
     ·show d.ID.Seq≤dD d.ID.Session T
      rw [r5,hD,if_pos rfl]; exact Int.le_refl _
     ·exact r6 d h1
    ·show (kq dkk s.open_ D).Perm (m.Open.filter (fun d=>dkk d !=idk c.ID)++[D])
     refine (oo o1 D).trans ?_
     rw [hDk]
     exact ((o3.filter _).cons D).trans (List.perm_append_comm (l₁:=[D]))
    ·rcases (kW o1 D d).1 hd with rfl | ⟨h1,_⟩
     ·rw [hD]; exact ⟨gid,gP⟩
     ·exact o4 d h1
  ·have b0:(qF t c.ID !=(0:Int))=true:=by simpa using hz
   rw [b0,if_neg hz]
   simp only [cond_true,hsl]
   obtain ⟨e,q1,q2,q3⟩:=xi h c1 c2 (by omega) c4 c.ID
   rw [q1,q2]
   exact ⟨_,_,_,_,rfl,rfl,q3,h.up⟩
theorem yp {l:List cW} {body:Int×List cW→Option ((Int×List cW) ⊕ List cW)} (to:Int) (hn:l.length≤1000)
  (h1 : ∀ (i:Nat) (hi:i<l.length) (acc:List cW),acc.length≤i→body ((i:Int),acc)=(bif (l[i].To==to) then (gd (room acc ([l[i]])) (some (Sum.inl ((IntKind.i64.wrap ((i:Int)+(1:Int))),(acc++([l[i]])))))) else (some (Sum.inl ((IntKind.i64.wrap ((i:Int)+(1:Int))),acc)))))
  (h2 : ∀ acc,body ((l.length:Int),acc)=some (Sum.inr acc)):br body ((0:Int),[])=some (l.filter fun x=>x.To==to):=by
 have h:=dz (body:=body) (fun i=>((i:Int),(l.take i).filter fun x=>x.To==to)) l.length (l.filter fun x=>x.To==to) (fun i hi=>by
  have hl:=List.length_filter_le (fun x:cW=>x.To==to) (l.take i)
  rw [List.length_take] at hl
  rw [h1 i hi _ (by omega),bJ (show i≤4294967295 by omega),List.take_succ_eq_append_getElem hi,List.filter_append,List.filter_cons,List.filter_nil,db (fa (by omega))]
  cases l[i].To==to <;> simp) (by rw [h2,List.take_length])
 simpa using h
def vq (E n0:Int) (c:aC):Int:=bif c.R.E !=(0:Int) then c.R.E else bif c.Epoch !=E then 9 else bif ((c.Writes.length:Int) !=(1:Int)) then 1 else bif decide (n0≥c.Rule.Quota) then 13 else c.R.E
theorem DO {E n0:Int} {c:aC} (h:vq E n0 c=0):c.Epoch=E∧∃ w,c.Writes=[w]:=by
 unfold vq at h
 cases h1:c.R.E !=(0:Int) with
 | true =>
  rw [h1,cond_true] at h
  rw [h] at h1; cases h1
 | false =>
  rw [h1,cond_false] at h
  cases h2:c.Epoch !=E with
  | true=>rw [h2] at h; cases h
  | false =>
   rw [h2,cond_false] at h
   cases h3:((c.Writes.length:Int) !=(1:Int)) with
   | true=>rw [h3] at h; cases h
   | false =>
    have h4:c.Writes.length=1:=by
     have : (c.Writes.length:Int)=1:=by simpa using h3
     omega
    exact ⟨by simpa using h2,List.length_eq_one_iff.1 h4⟩
theorem EZ {s:ae} (hr:fJ uk s.used) (hn:s.used.length≤1000) (c:aC) (n:Int):iz (some s) n c=jk s c n (hit uk c.Rule.ID s.used) ((pl uk c.Rule.ID s.used:Nat):Int) (rE s.used c.Rule.ID c.Epoch) (vq s.epoch (rE s.used c.Rule.ID c.Epoch) c):=by
 have hu:=FC hr hn c
 unfold iz
 dsimp only
 rw [hu,Option.bind_some]
 dsimp only
 have h1:(bif hit uk c.Rule.ID s.used then ((da s.used ((pl uk c.Rule.ID s.used:Nat):Int)).bind fun x740=>(bif (x740.epoch==c.Epoch) then (some x740.n) else (some (0:Int)))) else (some (0:Int)))=some (rE s.used c.Rule.ID c.Epoch):=by
  unfold rE
  cases hh:hit uk c.Rule.ID s.used with
  | false=>simp [hZ,hh]
  | true =>
   obtain ⟨hk,h3,h4⟩:=jI hh
   rw [h4,cond_true,bl hk,Option.bind_some]
   dsimp only
   cases s.used[pl uk c.Rule.ID s.used].epoch==c.Epoch <;> rfl
 rw [h1,Option.bind_some]
 unfold kB vq
 cases c.R.E !=(0:Int) with
 | true=>rfl
 | false =>
  cases c.Epoch !=s.epoch with
  | true=>rfl
  | false =>
   cases ((c.Writes.length:Int) !=(1:Int)) with
   | true=>rfl
   | false=>cases decide (rE s.used c.Rule.ID c.Epoch≥c.Rule.Quota) <;> rfl
theorem Fl {m:ai} (hn:m.Used.length≤1000) (c:aC) (n:Int):iS m n c=dI m c n (m.Used.filter fun u=>u.Rule !=c.Rule.ID) (m.Used.foldl (rn c.Rule.ID c.Epoch) 0) (vq m.Epoch (m.Used.foldl (rn c.Rule.ID c.Epoch) 0) c):=by
 unfold iS
 rw [FH hn c,Option.bind_some]
 generalize m.Used.foldl (rn c.Rule.ID c.Epoch) 0=n0
 generalize (m.Used.filter fun u=>u.Rule !=c.Rule.ID)=rest
 have key:∀ z:Int,z≠0→iE c n0 m n rest z=dI m c n rest n0 z:=fun z hz=>by
  have b:(z==(0:Int))=false:=by simpa using hz
  simp only [iE,iH,b,cond_false,Option.bind_some]
 have key2:iH n0 c m n rest 1=dI m c n rest n0 1:=rfl
 unfold jW vq
 dsimp only
 cases hE:c.R.E==(0:Int) with
 | false =>
  have h0:c.R.E≠0:=by simpa using hE
  have h1:(c.R.E !=(0:Int))=true:=by simpa using h0
  rw [h1]
  exact key _ h0
 | true =>
  have h0:c.R.E=0:=by simpa using hE
  rw [h0]
  show ((bif c.Epoch !=m.Epoch then some (9:Int) else some (0:Int)).bind _)=dI m c n rest n0 (bif c.Epoch !=m.Epoch then 9 else _)
  cases c.Epoch !=m.Epoch with
  | true=>exact key 9 (by decide)
  | false =>
   show ((bif ((c.Writes.length:Int) !=(1:Int)) then some (1:Int) else some (0:Int)).bind _)=dI m c n rest n0 (bif ((c.Writes.length:Int) !=(1:Int)) then 1 else _)
   cases ((c.Writes.length:Int) !=(1:Int)) with
   | true=>exact key2
   | false =>
    show ((bif (decide (n0≥c.Rule.Quota)) then some (13:Int) else some (0:Int)).bind _)=dI m c n rest n0 (bif (decide (n0≥c.Rule.Quota)) then 13 else 0)
    cases decide (n0≥c.Rule.Quota) <;> rfl
theorem DG {l:List ct} {k:Nat} (hr:fJ uk l) (h:∀ u∈l,0≤u.n∧u.n≤k) (id ep:Int):0≤rE l id ep∧rE l id ep≤k:=by
 unfold rE
 cases e:hZ uk id l with
 | none=>dsimp only; omega
 | some u =>
  have := h u ((kl hr).1 e).1
  dsimp only
  cases u.epoch==ep with
  | true=>exact this
  | false=>show (0:Int)≤0∧(0:Int)≤k; omega
theorem AS {k:Nat} {s:ae} {m:ai} (h:LP k s m) (hk:k≤100) {c:aC} (hc:c.Kind=7) (g:Df c) (n:Int):Step k s m n c:=by
 obtain ⟨t,c1,c2,c3,c4,c5,c6⟩:=h.la
 obtain ⟨u1,u2,u3,u4⟩:=h.us
 obtain ⟨x1,x2,x3⟩:=h.ou
 obtain ⟨_,gid,_,_,_,_,gw,_,_⟩:=g
 have hseq:=(xW gid.2).1
 have hUl:m.Used.length=s.used.length:=by have:=u3.length_eq; rw [List.length_map] at this; omega
 have hN:=CF u1 u3 c.Rule.ID c.Epoch
 have hNb:=DG u1 u4 c.Rule.ID c.Epoch
 have hA:cn (some s) n c=(iz (some s) n c).bind fun t=>match t.2 with | none=>none | some y=>some (t.1,some y):=by
  unfold cn
  dsimp only
  rw [hc]; rfl
 have hM:cr m n c=(iS m n c).bind fun t=>some (t.1,t.2):=by
  unfold cr
  rw [hc]; rfl
 unfold Step
 rw [hA,hM,EZ u1 (by omega) c n,Fl (by omega) c n,hN,h.ep]
 generalize hn0:rE s.used c.Rule.ID c.Epoch=n0 at hNb
 generalize hE':vq m.Epoch n0 c=E'
 obtain ⟨p1,p2⟩:=xn c2 (by omega) c4 hseq ({E:=E',Epoch:=c.Epoch,Index:=n,Gots:=[],Scans:=[]}:bp)
 have hok:okR {E:=E',Epoch:=c.Epoch,Index:=n,Gots:=[],Scans:=[]}:=vL _ _ _
 have hsl:=ve c1
 simp only [jk,dI,c1,p1,p2,Option.bind_some]
 by_cases hz:qF t c.ID=0
 ·have b0:(qF t c.ID !=(0:Int))=false:=by simpa using hz
  rw [b0,if_pos hz,if_pos hz]
  simp only [cond_false]
  have hlt:c.ID.Seq≠0∧dD c.ID.Session t<c.ID.Seq:=by
   unfold qF at hz
   by_cases h0:c.ID.Seq=0
   ·rw [if_pos h0] at hz; cases hz
   ·rw [if_neg h0] at hz
    by_cases h1:dD c.ID.Session t≥c.ID.Seq
    ·rw [if_pos h1] at hz; cases hz
    ·omega
  obtain ⟨T,hT⟩:∃ T,T=mm t (nH c.ID.Session c.ID.Seq {E:=E',Epoch:=c.Epoch,Index:=n,Gots:=[],Scans:=[]}):=⟨_,rfl⟩
  obtain ⟨A',hA'⟩:∃ A',A'=an (nH c.ID.Session c.ID.Seq {E:=E',Epoch:=c.Epoch,Index:=n,Gots:=[],Scans:=[]})::m.A.filter (fun a=>a.Session !=c.ID.Session):=⟨_,rfl⟩
  rw [← hT,← hA']
  have r1:ff T:=by rw [hT]; exact oH c2 _
  have r2:T.length≤k+1:=by rw [hT]; have:=vd c2 (nH c.ID.Session c.ID.Seq {E:=E',Epoch:=c.Epoch,Index:=n,Gots:=[],Scans:=[]}); omega
  have r3:Rel T A':=by rw [hT,hA']; exact xb c2 c4 _
  have r4:CD T:=by rw [hT]; exact yk c2 c5 ⟨hok,by show 0<c.ID.Seq; omega⟩
  have r5:∀ x,dD x T=if x=c.ID.Session then c.ID.Seq else dD x t:=fun x=>by rw [hT]; exact xm c2 _ _ _ x
  have r6:∀ d∈s.open_,d.ID.Seq≤dD d.ID.Session T:=fun d hd=>by
   have := c6 d hd
   rw [r5]
   split
   ·rename_i e; rw [e] at this; omega
   ·exact this
  obtain ⟨wd,wb,ep,e1,e2,a,b,cc,dd,o,p,u⟩:=h.up
  cases hz2:E'==(0:Int) with
  | false=>exact ⟨_,_,_,_,rfl,rfl,gT hok,wd,wb,ep,e1,e2,a,b,⟨T,rfl,r1,r2,r3,r4,r6⟩,dd,o,p,u⟩
  | true =>
   have hE0:E'=0:=by simpa using hz2
   rw [hE0] at hE'
   obtain ⟨hce,w,hw⟩:=DO hE'
   have gw1:=gw.2 w (by rw [hw]; simp)
   obtain ⟨X,hX⟩:∃ X:ct,X={kj:=c.Rule.ID,epoch:=c.Epoch,n:=n0+1}:=⟨_,rfl⟩
   have hwn:IntKind.i64.wrap (n0+(1:Int))=n0+1:=by rw [wrap_i64] <;> omega
   have g0:da c.Writes (0:Int)=some w:=by rw [hw]; rfl
   have hle:=uc uk c.Rule.ID s.used
   -- the table of uses
   have hused:∃ U1:List ct,∃ x:ct,(bif (!(hit uk c.Rule.ID s.used)) then ((dJ s.used ((pl uk c.Rule.ID s.used:Nat):Int) ([({kj:=c.Rule.ID,epoch:=(0:Int),n:=(0:Int)}:ct)])).bind fun t832=>(some ({s with last:=some {l:=T},used:=t832}:ae))) else (some ({s with last:=some {l:=T}}:ae)))=some ({s with last:=some {l:=T},used:=U1}:ae)∧da U1 ((pl uk c.Rule.ID s.used:Nat):Int)=some x∧x.kj=c.Rule.ID∧U1.set (pl uk c.Rule.ID s.used) X=kq uk s.used X:=by
    have hXk:uk X=c.Rule.ID:=by rw [hX]; rfl
    cases hh:hit uk c.Rule.ID s.used with
    | true =>
     obtain ⟨hk2,h3,h4⟩:=jI hh
     have hs:=va (k:=uk) (l:=s.used) (x:=X) (by rw [hXk]; exact hh)
     rw [hXk] at hs
     exact ⟨s.used,_,rfl,bl hk2,h3,hs⟩
    | false =>
     have hm1:=rN (k:=uk) (l:=s.used) (x:={kj:=c.Rule.ID,epoch:=(0:Int),n:=(0:Int)}) hh
     have hp:=Cy (k:=uk) (l:=s.used) (x:={kj:=c.Rule.ID,epoch:=(0:Int),n:=(0:Int)})
     have hs:=An (k:=uk) (l:=s.used) (x:={kj:=c.Rule.ID,epoch:=(0:Int),n:=(0:Int)}) (y:=X) (by rw [hXk]; rfl)
     refine ⟨kq uk s.used {kj:=c.Rule.ID,epoch:=(0:Int),n:=(0:Int)},{kj:=c.Rule.ID,epoch:=(0:Int),n:=(0:Int)},?_,?_,rfl,hs⟩
     ·simp only [Bool.not_false,cond_true,dJ]
      rw [db (rZ (x:=({kj:=c.Rule.ID,epoch:=(0:Int),n:=(0:Int)}:ct)) c.Rule.ID (by omega)),Option.bind_some]
      rw [← hm1]; rfl
     ·rw [rT]; exact hp
   obtain ⟨U1,x,k1,k2,k3,k4⟩:=hused
   obtain ⟨O,hO⟩:∃ O,O=s.out.filter fun y=>y.To==c.Rule.To:=⟨_,rfl⟩
   have l1:br (gL ({s with last:=some {l:=T},used:=U1}:ae) c) ((0:Int),[])=some O:=by
    rw [hO]
    refine yp (l:=s.out) c.Rule.To (by omega) (fun i hi acc ha=>?_) (fun acc=>?_)
    ·simp only [gL,gW hi,cond_true,bl hi,Option.bind_some]
    ·simp [gL,bt]
   have l2:br (fb m c) ([],(0:Int))=some O:=by
    rw [hO,← x1]
    have hol:m.Out.length≤1000:=by rw [x1]; omega
    have := lc (body:=fb m c) m.Out (fun y=>y.To==c.Rule.To) (fun y=>y) (fun out=>out) (fun i hi out ho=>by
     simp only [fb,gW hi,cond_true,bl hi,Option.bind_some,db (fa (x:=m.Out[i]) (show out.length≤1073741823 by omega)),bJ (show i≤4294967295 by omega)]
     cases m.Out[i].To==c.Rule.To <;> rfl) (fun out _=>by simp [fb,bt])
    rw [List.map_id'] at this
    exact this
   have f1:=ES w (n:=s.wide) h.wb
   have f2:=AR w (n:=m.Wide) (by rw [← h.wd]; exact h.wb)
   rw [← h.wd] at f2
   obtain ⟨W,hW⟩:∃ W:bN,W={w with Val:=if w.Del then [] else vU s.wide.toNat w.Val}:=⟨_,rfl⟩
   rw [← hW] at f1 f2
   have hrl:=List.length_filter_le (fun u:dy=>u.Rule !=c.Rule.ID) m.Used
   have hol:m.Out.length≤1000:=by rw [x1]; omega
   rw [k1]
   simp only [cond_true,Option.bind_some,kF,k2,g0,l1,l2,f1,← h.wd,f2,hwn,Int.toNat_natCast,List.set_set]
   rw [db (fa (by omega)),db (fa (by omega)),db (fa (by omega))]
   simp only [Option.bind_some,kD,jZ]
   rw [show ({kj:=x.kj,epoch:=c.Epoch,n:=n0+1}:ct)=X by rw [hX,k3],k4]
   have hpl:=rB u1 X
   refine ⟨_,_,_,_,rfl,rfl,gT hok,rfl,wb,ep,e1,e2,a,b,⟨T,rfl,r1,r2,r3,r4,r6⟩,dd,o,⟨by show m.Out++_=s.out++_; rw [x1],by show (s.out++_).length≤_; rw [List.length_append,List.length_singleton]; omega,fun y hy=>?_⟩,⟨po u1 X,by show (kq uk s.used X).length≤_; omega,?_,fun y hy=>?_⟩⟩
   ·rcases List.mem_append.1 hy with hy | hy
    ·exact x3 y hy
    ·rw [List.mem_singleton.1 hy]
     show isF W.At
     rw [hW]; exact gw1.1
   ·show ((kq uk s.used X).map cu).Perm (m.Used.filter (fun u=>u.Rule !=c.Rule.ID)++[{Rule:=c.Rule.ID,Epoch:=c.Epoch,N:=n0+1}])
    refine ((oo u1 X).map cu).trans ?_
    rw [List.map_cons]
    have hf:((s.used.filter fun y=>uk y !=uk X).map cu).Perm (m.Used.filter fun u=>u.Rule !=c.Rule.ID):=by
     have := u3.filter (fun u=>u.Rule !=c.Rule.ID)
     rw [List.filter_map] at this
     rw [hX]
     exact this
    rw [show cu X={Rule:=c.Rule.ID,Epoch:=c.Epoch,N:=n0+1} by rw [hX]; rfl]
    exact (hf.cons _).trans (List.perm_append_comm (l₁:=[_]))
   ·rcases (kW u1 X y).1 hy with rfl | ⟨h1,_⟩
    ·rw [hX]; exact ⟨by show 0≤n0+1; omega,by show n0+1≤((k+1:Nat):Int); omega⟩
    ·have := u4 y h1; omega
 ·have b0:(qF t c.ID !=(0:Int))=true:=by simpa using hz
  rw [b0,if_neg hz]
  simp only [cond_true,hsl]
  obtain ⟨e,q1,q2,q3⟩:=xi h c1 c2 (by omega) c4 c.ID
  rw [q1,q2]
  exact ⟨_,_,_,_,rfl,rfl,q3,h.up⟩
end Go.Proofs.YtgnkkopjkgdieaaGreat

end
