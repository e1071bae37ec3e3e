/- A part of the proof. -/
import Derived.Test.YtgnkkopjkgdieaaGreatLanePlaysGw
import Derived.Test.YtgnkkopjkgdieaaGreatLanePlaysM
import Derived.Test.YtgnkkopjkgdieaaGreatLanePlaysP0
section
set_option linter.unusedVariables false
set_option linter.unusedSimpArgs false
set_option maxRecDepth 100000
namespace Go.Proofs.YtgnkkopjkgdieaaGreat
open Go Go.V
def rk (x:bR):Int:=x.rank
def vk (x:aT):Int:=x.Epoch*18446744073709551616+x.Index
def vG (x:aT):Prop:=0≤x.Epoch∧x.Epoch<18446744073709551616∧0≤x.Index∧x.Index<18446744073709551616
theorem uq {α:Type} {L:Int×Int→Option ((Int×Int) ⊕ Int)} (l:List α) (p:α→Bool) (hn:l.length≤1073741824) (hp:Ahd p l)
  (h1 : ∀ (i j k:Nat) (hk:k<l.length),i<j→k=(i+j) / 2→j≤l.length→L ((i:Int),(j:Int))=some (.inl (bif p l[k] then (((k+1:Nat):Int),(j:Int)) else ((i:Int),(k:Int)))))
  (h2 : ∀ i j:Nat,¬ i<j→L ((i:Int),(j:Int))=some (.inr (i:Int))):br L ((0:Int),(l.length:Int))=some ((lb p l:Nat):Int):=by
 have key:=nA (body:=L) (Inv:=fun s=>∃ i j:Nat,s=((i:Int),(j:Int))∧i≤j∧j≤l.length∧(∀ a (h:a<l.length),a<i→p l[a]=true)∧(∀ a (h:a<l.length),j≤a→p l[a]=false))
  (m := fun s=>(s.2 - s.1).toNat) (Q:=fun r=>r=((lb p l:Nat):Int)) (fun s hs=>by
   obtain ⟨i,j,rfl,g1,g2,g3,g4⟩:=hs
   by_cases hij:i<j
   ·have hk:(i+j) / 2<l.length:=by omega
    refine .inl ⟨_,h1 i j _ hk hij rfl g2,?_,?_⟩
    ·cases hb:p l[(i+j) / 2] with
     | true =>
      refine ⟨(i+j) / 2+1,j,rfl,by omega,g2,fun a ha hak=>?_,g4⟩
      by_cases e:a=(i+j) / 2
      ·subst e; exact hb
      ·exact hp a _ ha hk (by omega) hb
     | false =>
      refine ⟨i,(i+j) / 2,rfl,by omega,by omega,g3,fun a ha hak=>?_⟩
      by_cases e:a=(i+j) / 2
      ·subst e; exact hb
      ·cases hc:p l[a] with
       | false=>rfl
       | true=>rw [hp _ a hk ha (by omega) hc] at hb; cases hb
    ·cases hb:p l[(i+j) / 2] with
     | true=>simp only [cond_true]; omega
     | false=>simp only [cond_false]; omega
   ·refine .inr ⟨_,h2 i j hij,?_⟩
    have hij':i=j:=by omega
    subst hij'
    rw [show lb p l=i from qj g2 g3 fun h=>g4 i h (Nat.le_refl _)]) (s:=((0:Int),(l.length:Int))) ⟨0,l.length,rfl,by omega,by omega,fun a _ h=>by omega,fun a h1 h2=>by omega⟩
 obtain ⟨r,h3,h4⟩:=key
 rw [h3,h4]
theorem ui {l:List bR} (h:fJ rk l) (hn:l.length≤1000000) (s:Int):gq (some {rows:=l}) s=some (((pl rk s l:Nat):Int),hit rk s l):=by
 have hs:br (gH {rows:=l} s) ((0:Int),((l.length:Nat):Int))=some ((lb (lo rk s) l:Nat):Int):=by
  refine uq l (lo rk s) (by omega) (h.ahd s) (fun i j k hk hij hke hj=>?_) (fun i j hij=>?_)
  ·have e1:decide ((i:Int)<(j:Int))=true:=by simpa using hij
   have e2:=tu (i:=i) (j:=j) (by omega)
   rw [← hke] at e2
   simp only [gH,e1,cond_true,e2,bl hk,Option.bind_some]
   have e3:IntKind.i64.wrap ((k:Int)+(1:Int))=((k+1:Nat):Int):=wrap_add (a:=k) (b:=1) (by omega)
   by_cases hl:l[k].rank<s
   ·have : ¬ l[k].rank≥s:=by omega
    simp [lo,rk,hl,e3,this]
   ·have : l[k].rank≥s:=by omega
    simp [lo,rk,hl,this]
  ·have e1:decide ((i:Int)<(j:Int))=false:=by simpa using hij
   simp only [gH,e1,cond_false,bt,Option.map_some]
 simp only [gq,hs,Option.bind_some]
 rw [show lb (lo rk s) l=pl rk s l from rfl]
 unfold hit
 by_cases hk:pl rk s l<l.length
 ·have e1:decide (((pl rk s l:Nat):Int)<(l.length:Int))=true:=by simpa using hk
  rw [e1,cond_true,bl hk,Option.bind_some,List.getElem?_eq_getElem hk]
  rfl
 ·have e1:decide (((pl rk s l:Nat):Int)<(l.length:Int))=false:=by simpa using hk
  rw [e1,cond_false,List.getElem?_eq_none (by omega)]
theorem zX {a b:aT} (ha:vG a) (hb:vG b):vk a<vk b↔a.Epoch<b.Epoch∨(a.Epoch=b.Epoch∧a.Index<b.Index):=by
 obtain ⟨a1,a2,a3,a4⟩:=ha
 obtain ⟨b1,b2,b3,b4⟩:=hb
 unfold vk
 omega
theorem CH {a b:aT} (ha:vG a) (hb:vG b):vk a=vk b↔a.Epoch=b.Epoch∧a.Index=b.Index:=by
 obtain ⟨a1,a2,a3,a4⟩:=ha
 obtain ⟨b1,b2,b3,b4⟩:=hb
 unfold vk
 omega
theorem EN {a b:aT} (ha:vG a) (hb:vG b):px a b.Epoch b.Index=some (decide (vk a<vk b)):=by
 have h:decide (vk a<vk b)=decide (a.Epoch<b.Epoch∨(a.Epoch=b.Epoch∧a.Index<b.Index)):=by simp only [zX ha hb]
 rw [h]
 unfold px
 by_cases h1:a.Epoch<b.Epoch
 ·simp [h1]
 ·by_cases h2:a.Epoch=b.Epoch
  ·simp [h2]
  ·have h3:(a.Epoch==b.Epoch)=false:=by simpa using h2
   simp [h1,h2,h3]
theorem FJ {r:bR} {v:aT} (hr:fJ vk r.l) (hg:∀ x∈r.l,vG x) (gv:vG v) (hn:r.l.length≤1000000):br (ic r v) ((0:Int),((r.l.length:Nat):Int))=some ((pl vk (vk v) r.l:Nat):Int):=by
 refine uq r.l (lo vk (vk v)) (by omega) (hr.ahd _) (fun i j k hk hij hke hj=>?_) (fun i j hij=>?_)
 ·have e1:decide ((i:Int)<(j:Int))=true:=by simpa using hij
  have e2:=tu (i:=i) (j:=j) (by omega)
  rw [← hke] at e2
  simp only [ic,e1,cond_true,e2,bl hk,Option.bind_some,EN (hg _ (List.getElem_mem hk)) gv]
  have e3:IntKind.i64.wrap ((k:Int)+(1:Int))=((k+1:Nat):Int):=wrap_add (a:=k) (b:=1) (by omega)
  by_cases hl:vk r.l[k]<vk v
  ·simp [lo,hl,e3]
  ·simp [lo,hl]
 ·have e1:decide ((i:Int)<(j:Int))=false:=by simpa using hij
  simp only [ic,e1,cond_false,bt,Option.map_some]
theorem Cy {α:Type} {k:α→Int} {l:List α} {x:α}:(kq k l x)[pl k (k x) l]?=some x:=by
 unfold kq
 have h:=uc k (k x) l
 have e:(l.take (pl k (k x) l)).length=pl k (k x) l:=by rw [List.length_take]; omega
 rw [List.getElem?_append_right (by omega),e,Nat.sub_self]; rfl
theorem An {α:Type} {k:α→Int} {l:List α} {x y:α} (h:k x=k y):(kq k l x).set (pl k (k x) l) y=kq k l y:=by
 unfold kq
 rw [← h]
 have h:=uc k (k x) l
 have e:(l.take (pl k (k x) l)).length=pl k (k x) l:=by rw [List.length_take]; omega
 rw [List.set_append_right _ _ (by omega),e,Nat.sub_self]; rfl
def clr (v:aT):aT:={v with Val:=if v.Del then [] else v.Val}
def mQ (l:List bR) (r:Int):List aT:=match hZ rk r l with | some x=>x.l | none=>[]
def yF (l:List bR) (r:Int) (v:aT):List bR:=kq rk l {rank:=r,l:=kq vk (mQ l r) v}
structure Good (n:Nat) (l:List bR):Prop where
 rise : fJ rk l
 len : l.length≤n
 vr : ∀ x∈l,fJ vk x.l
 vg : ∀ x∈l,∀ v∈x.l,vG v
 vl : ∀ x∈l,x.l.length≤n
theorem Fv {x:bR} {v:aT} {z:List Int} (hr:fJ vk x.l) (hg:∀ y∈x.l,vG y) (gv:vG v) (hn:x.l.length≤1000000) (t:Int×Bool) (rows:List bR) (hx:da rows t.1=some x) :
  jE t v z {rows:=rows}=some (some {rows:=rows.set t.1.toNat {rank:=x.rank,l:=kq vk x.l {v with Val:=z}}}):=by
 have e0:vk {v with Val:=z}=vk v:=rfl
 simp only [jE,hx,Option.bind_some,FJ hr hg gv hn]
 have hj:hit vk (vk v) x.l=false→jM x ((pl vk (vk v) x.l:Nat):Int) v z {rows:=rows} t ()=some (some {rows:=rows.set t.1.toNat {rank:=x.rank,l:=kq vk x.l {v with Val:=z}}}):=fun hh=>by
  simp only [jM,dK]
  rw [db (rZ (x:=({v with Val:=z}:aT)) (vk v) (by omega)),Option.bind_some]
  have := rN (k:=vk) (l:=x.l) (x:={v with Val:=z}) (by rw [e0]; exact hh)
  rw [e0] at this
  rw [this]
 by_cases hk:pl vk (vk v) x.l<x.l.length
 ·rw [gW hk,cond_true,bl hk,Option.bind_some]
  have hvg:=hg _ (List.getElem_mem hk)
  by_cases he:vk x.l[pl vk (vk v) x.l]=vk v
  ·obtain ⟨q1,q2⟩:=(CH hvg gv).1 he
   have hh:hit vk (vk v) x.l=true:=by unfold hit; rw [List.getElem?_eq_getElem hk]; simpa using he
   have hs:=va (k:=vk) (l:=x.l) (x:={v with Val:=z}) (by rw [e0]; exact hh)
   rw [e0] at hs
   simp only [q1,q2,beq_self_eq_true,cond_true,Int.toNat_natCast]
   rw [show ({v with Val:=z}:aT)={v with Val:=z} from rfl,hs]
   rfl
  ·have hh:hit vk (vk v) x.l=false:=by unfold hit; rw [List.getElem?_eq_getElem hk]; simpa using he
   rw [← hj hh]
   by_cases q1:x.l[pl vk (vk v) x.l].Epoch=v.Epoch
   ·have q2:¬ x.l[pl vk (vk v) x.l].Index=v.Index:=fun q2=>he ((CH hvg gv).2 ⟨q1,q2⟩)
    have b1:(x.l[pl vk (vk v) x.l].Epoch==v.Epoch)=true:=by simpa using q1
    have b2:(x.l[pl vk (vk v) x.l].Index==v.Index)=false:=by simpa using q2
    simp only [b1,b2,cond_true,cond_false]
    rfl
   ·have b1:(x.l[pl vk (vk v) x.l].Epoch==v.Epoch)=false:=by simpa using q1
    simp only [b1,cond_false]
    rfl
 ·have hk':=uc vk (vk v) x.l
  have e:pl vk (vk v) x.l=x.l.length:=by omega
  have hh:hit vk (vk v) x.l=false:=by unfold hit; rw [List.getElem?_eq_none (by omega)]
  rw [← hj hh]
  have : decide (((pl vk (vk v) x.l:Nat):Int)<((x.l.length:Nat):Int))=false:=by rw [e]; simp
  rw [this,cond_false]
  rfl
theorem Dg {n:Nat} {l:List bR} (g:Good n l) (hn:n≤1000000) {a:Nat} (ha:isF a) {v:aT} (gv:vG v) (hv:v.Val.length≤1000000) :
  hH (some {rows:=l}) a v=some (some {rows:=yF l (ax a) (clr v)}):=by
 have hl:=g.len
 simp only [hH,dM]
 rw [db (jH (by simp only [List.length_nil]; omega)),Option.bind_some]
 have e1:(bif v.Del then (some ([]:List Int)) else some v.Val)=some (clr v).Val:=by unfold clr; cases v.Del <;> rfl
 rw [e1,Option.bind_some]
 simp only [lB,pd ha,Option.bind_some,ui g.rise (show l.length≤1000000 by omega)]
 have e2:({v with Val:=(clr v).Val}:aT)=clr v:=rfl
 cases hh:hit rk (ax a) l with
 | true =>
  obtain ⟨hk,h1,h2⟩:=jI hh
  have hm:=List.getElem_mem hk
  simp only [Bool.not_true,cond_false,Option.bind_some]
  rw [Fv (x:=l[pl rk (ax a) l]) (g.vr _ hm) (g.vg _ hm) gv (by have:=g.vl _ hm; omega) _ _ (bl hk),e2]
  have hs:=va (k:=rk) (l:=l) (x:={rank:=ax a,l:=kq vk (mQ l (ax a)) (clr v)}) hh
  show _=some (some ({rows:=yF l (ax a) (clr v)}:cO))
  unfold yF
  rw [← hs]
  have e3:mQ l (ax a)=l[pl rk (ax a) l].l:=by unfold mQ; rw [h2]
  rw [e3]
  have e4:l[pl rk (ax a) l].rank=ax a:=h1
  rw [e4]
  rfl
 | false =>
  simp only [Bool.not_false,cond_true,Option.bind_some,eM]
  rw [db (rZ (x:=({rank:=ax a,l:=[]}:bR)) (ax a) (by omega)),Option.bind_some]
  have hi:=rN (k:=rk) (l:=l) (x:={rank:=ax a,l:=[]}) hh
  rw [show rk ({rank:=ax a,l:=[]}:bR)=ax a from rfl] at hi
  rw [hi,Option.bind_some]
  have hp:=Cy (k:=rk) (l:=l) (x:={rank:=ax a,l:=[]})
  rw [Fv (x:={rank:=ax a,l:=[]}) pD (fun y h=>by cases h) gv (by simp) _ _ (by rw [rT]; exact hp),e2]
  have hs:=An (k:=rk) (l:=l) (x:={rank:=ax a,l:=[]}) (y:={rank:=ax a,l:=kq vk [] (clr v)}) rfl
  have e3:mQ l (ax a)=[]:=by
   unfold mQ
   have : hZ rk (ax a) l=none:=by simp [hZ,hh]
   rw [this]
  unfold yF
  rw [e3,← hs]
  rfl
end Go.Proofs.YtgnkkopjkgdieaaGreat

end
section
set_option linter.unusedVariables false
set_option linter.unusedSimpArgs false
set_option maxRecDepth 100000
namespace Go.Proofs.YtgnkkopjkgdieaaGreat
open Go Go.V
def ver (x:aB):aT:={Epoch:=x.Epoch,Index:=x.Index,Del:=x.Del,Val:=x.Val}
def re (x:aB):Int×aT:=(ax x.At,ver x)
def ky (p:Int×aT):Int×Int:=(p.1,vk p.2)
def lD (l:List bR):List (Int×aT):=l.flatMap fun r=>r.l.map fun v=>(r.rank,v)
def xG (x:aB):Prop:=isF x.At∧vG (ver x)∧x.Val.length≤256∧U8s x.Val
def clx (x:aB):aB:={x with Val:=if x.Del then [] else x.Val}
def tz (k:Int×Int) (p:Int×aT):Bool:=!(decide (ky p=k))
structure Inv (n:Nat) (l:List bR) (m:List aB):Prop where
 rise : fJ rk l
 ne : ∀ x∈l,x.l≠[]
 vr : ∀ x∈l,fJ vk x.l
 pm : (lD l).Perm (m.map re)
 xg : ∀ x∈m,xG x
 cl : ∀ x∈m,x.Del=true→x.Val=[]
 nd : (m.map fun x=>ky (re x)).Nodup
 mlen : m.length≤n
theorem tV {l:List bR} {p:Int×aT}:p∈lD l↔∃ x∈l,x.rank=p.1∧p.2∈x.l:=by
 unfold lD
 rw [List.mem_flatMap]
 constructor
 ·rintro ⟨x,hx,hp⟩
  obtain ⟨v,hv,rfl⟩:=List.mem_map.1 hp
  exact ⟨x,hx,rfl,hv⟩
 ·rintro ⟨x,hx,h1,h2⟩
  exact ⟨x,hx,List.mem_map.2 ⟨p.2,h2,by rw [h1]⟩⟩
theorem vO:∀ {l:List bR},(∀ x∈l,x.l≠[])→l.length≤(lD l).length
 | [],_=>Nat.zero_le _
 | x::l,h=>by
  have h1:=vO (l:=l) fun y hy=>h y (by simp [hy])
  have h2:0<x.l.length:=List.length_pos_iff.2 (h x (by simp))
  show _≤(((x.l.map fun v=>(x.rank,v))++lD l).length)
  rw [List.length_append,List.length_map,List.length_cons]
  omega
theorem wK:∀ {l:List bR},∀ x∈l,x.l.length≤(lD l).length
 | [],x,h=>by cases h
 | y::l,x,h=>by
  show _≤(((y.l.map fun v=>(y.rank,v))++lD l).length)
  rw [List.length_append,List.length_map]
  rcases List.mem_cons.1 h with rfl | h
  ·omega
  ·have := wK (l:=l) x h; omega
theorem Inv.size {n:Nat} {l:List bR} {m:List aB} (h:Inv n l m):(lD l).length=m.length:=by rw [h.pm.length_eq,List.length_map]
theorem Inv.EU {n:Nat} {l:List bR} {m:List aB} (h:Inv n l m):Good n l where
 rise := h.rise
 len := by have:=vO h.ne; have:=h.size; have:=h.mlen; omega
 vr := h.vr
 vg := fun x hx v hv=>by
  have h1:(x.rank,v)∈m.map re:=h.pm.mem_iff.1 (tV.2 ⟨x,hx,rfl,hv⟩)
  obtain ⟨y,hy,e⟩:=List.mem_map.1 h1
  have e2:ver y=v:=congrArg Prod.snd e
  rw [← e2]; exact (h.xg y hy).2.1
 vl := fun x hx=>by have:=wK x hx; have:=h.size; have:=h.mlen; omega
theorem xa {l k:List bR} (h:l.Perm k):(lD l).Perm (lD k):=List.Perm.flatMap_right _ h
theorem Ba {l:List bR} (hr:fJ rk l) (r:Int):l.Perm ((hZ rk r l).toList++l.filter (fun x=>rk x !=r)):=by
 rw [kw hr]
 unfold oG
 cases hh:hit rk r l with
 | false =>
  have e:pr rk r l=pl rk r l:=by simp [pr,hh]
  have e2:hZ rk r l=none:=by simp [hZ,hh]
  rw [e,e2,List.take_append_drop]; exact List.Perm.refl _
 | true =>
  obtain ⟨hk,h3,h4⟩:=jI hh
  have e:pr rk r l=pl rk r l+1:=by simp [pr,hh]
  rw [e,h4]
  have h5:l=l.take (pl rk r l)++l[pl rk r l]::l.drop (pl rk r l+1):=by rw [← List.drop_eq_getElem_cons hk,List.take_append_drop]
  have h6:(l.take (pl rk r l)++l[pl rk r l]::l.drop (pl rk r l+1)).Perm (l[pl rk r l]::(l.take (pl rk r l)++l.drop (pl rk r l+1))):=List.perm_middle
  rw [← h5] at h6
  exact h6
theorem iW {l:List bR} (hr:fJ rk l) (r:Int):(lD l).Perm ((mQ l r).map (fun v=>(r,v))++lD (l.filter (fun x=>rk x !=r))):=by
 have h1:=xa (Ba hr r)
 have h2:lD ((hZ rk r l).toList++l.filter (fun x=>rk x !=r))=(mQ l r).map (fun v=>(r,v))++lD (l.filter (fun x=>rk x !=r)):=by
  unfold lD
  rw [List.flatMap_append]
  congr 1
  unfold mQ
  cases e:hZ rk r l with
  | none=>rfl
  | some x =>
   have e2:x.rank=r:=((kl hr).1 e).2
   simp [e2]
 rwa [h2] at h1
theorem ym {l:List bR} {r:Int} {p:Int×aT} (h:p∈lD (l.filter (fun x=>rk x !=r))):p.1≠r:=by
 obtain ⟨x,hx,h1,_⟩:=tV.1 h
 have := (List.mem_filter.1 hx).2
 rw [← h1]
 simpa [rk] using this
theorem sv {l:List bR} (hr:fJ rk l) (hv:∀ x∈l,fJ vk x.l) (r:Int):fJ vk (mQ l r):=by
 unfold mQ
 cases e:hZ rk r l with
 | none=>exact pD
 | some x=>exact hv x ((kl hr).1 e).1
theorem Cp {l:List bR} (hr:fJ rk l) (hv:∀ x∈l,fJ vk x.l) (r:Int) (v:aT):(lD (yF l r v)).Perm ((r,v)::(lD l).filter (tz (r,vk v))):=by
 have h1:=xa (oo hr {rank:=r,l:=kq vk (mQ l r) v})
 have h2:lD ({rank:=r,l:=kq vk (mQ l r) v}::l.filter (fun y=>rk y !=rk {rank:=r,l:=kq vk (mQ l r) v}))=(kq vk (mQ l r) v).map (fun w=>(r,w))++lD (l.filter (fun x=>rk x !=r)):=rfl
 rw [h2] at h1
 have h3:=(oo (sv hr hv r) v).map (fun w=>(r,w))
 have h4:=(iW hr r).filter (tz (r,vk v))
 rw [List.filter_append] at h4
 have h5:(lD (l.filter (fun x=>rk x !=r))).filter (tz (r,vk v))=lD (l.filter (fun x=>rk x !=r)):=List.filter_eq_self.2 fun p hp=>by
  have := ym hp
  simp [tz,ky,this]
 have h6:((mQ l r).map (fun w=>(r,w))).filter (tz (r,vk v))=((mQ l r).filter (fun y=>vk y !=vk v)).map (fun w=>(r,w)):=by
  rw [List.filter_map]
  congr 1
  refine List.filter_congr fun w _=>?_
  simp [tz,ky,bne]
  rfl
 rw [h5,h6] at h4
 refine h1.trans ?_
 refine (h3.append_right _).trans ?_
 rw [List.map_cons,List.cons_append]
 exact (h4.symm).cons _
theorem ue {m:List aB} {x:aB} (hm:∀ y∈m,isF y.At) (hx:isF x.At) (hn:m.length≤1000000) (gm:∀ y∈m,vG (ver y)) (gx:vG (ver x)) :
  om m x=some (m.filter (fun y=>tz (ky (re x)) (re y))++[clx x]):=by
 have h:=lc (body:=lX m x) m (fun y=>tz (ky (re x)) (re y)) id id (fun i hi out ho=>by
  have hmi:=List.getElem_mem hi
  simp only [lX,gW hi,cond_true,bl hi,Option.bind_some,nC (hm _ hmi) hx,bJ (show i≤4294967295 by omega),db (fa (xs:=out) (x:=m[i]) (by omega))]
  have hk:tz (ky (re x)) (re m[i]) = !(decide (ax m[i].At=ax x.At)&&(decide (m[i].Epoch=x.Epoch)&&decide (m[i].Index=x.Index))):=by
   unfold tz
   congr 1
   rw [Bool.eq_iff_iff]
   simp only [decide_eq_true_eq,Bool.and_eq_true,ky,re,Prod.mk.injEq,CH (gm _ hmi) gx]
   exact Iff.rfl
  rw [hk]
  by_cases h1:ax m[i].At=ax x.At
  ·by_cases h2:m[i].Epoch=x.Epoch
   ·by_cases h3:m[i].Index=x.Index
    ·simp [h1,h2,h3]
    ·have b3:(m[i].Index !=x.Index)=true:=by simpa using h3
     simp [h1,h2,h3,b3]
   ·have b2:(m[i].Epoch !=x.Epoch)=true:=by simpa using h2
    simp [h1,h2,b2]
  ·simp [h1]) (fun out ho=>by simp [lX,bt])
 simp only [om,h,Option.bind_some,oY]
 have e1:(bif x.Del then (some ([]:List Int)) else some x.Val)=some (clx x).Val:=by unfold clx; cases x.Del <;> rfl
 rw [e1,Option.bind_some]
 simp only [ph]
 have hl:=List.length_filter_le (fun y=>tz (ky (re x)) (re y)) m
 rw [db (fa (by simp only [id,List.length_map]; omega))]
 simp [clx]
theorem DA (x:aB):re (clx x)=(ax x.At,clr (ver x)):=rfl
theorem Dl {x:aB} (h:xG x):xG (clx x):=by
 obtain ⟨h1,h2,h3,h4⟩:=h
 refine ⟨h1,h2,?_,?_⟩
 ·unfold clx; split
  ·simp
  ·exact h3
 ·unfold clx; split
  ·intro y hy; cases hy
  ·exact h4
theorem AB {n:Nat} {l:List bR} {m:List aB} (h:Inv n l m) (hn:n≤10000) {x:aB} (gx:xG x) :
  hH (some {rows:=l}) x.At (ver x)=some (some {rows:=yF l (ax x.At) (clr (ver x))}) ∧
  ∃ m',om m x=some m'∧Inv (n+1) (yF l (ax x.At) (clr (ver x))) m':=by
 refine ⟨Dg h.EU (by omega) gx.1 gx.2.1 (by have:=gx.2.2.1; show x.Val.length≤_; omega),_,ue (fun y hy=>(h.xg y hy).1) gx.1 (by have:=h.mlen; omega) (fun y hy=>(h.xg y hy).2.1) gx.2.1,?_⟩
 have hvr:=sv h.rise h.vr (ax x.At)
 refine ⟨po h.rise _,fun y hy=>?_,fun y hy=>?_,?_,fun y hy=>?_,fun y hy=>?_,?_,?_⟩
 ·rcases (kW h.rise _ y).1 hy with rfl | ⟨h1,_⟩
  ·intro e
   have := (kW hvr (clr (ver x)) (clr (ver x))).2 (.inl rfl)
   have e':kq vk (mQ l (ax x.At)) (clr (ver x))=[]:=e
   rw [e'] at this; cases this
  ·exact h.ne y h1
 ·rcases (kW h.rise _ y).1 hy with rfl | ⟨h1,_⟩
  ·exact po hvr _
  ·exact h.vr y h1
 ·refine (Cp h.rise h.vr _ _).trans ?_
  rw [List.map_append,List.map_cons,List.map_nil,DA]
  have h1:=(h.pm.filter (tz (ax x.At,vk (clr (ver x)))))
  rw [List.filter_map] at h1
  refine List.Perm.trans ?_ List.perm_append_comm
  exact h1.cons _
 ·rcases List.mem_append.1 hy with hy | hy
  ·exact h.xg y (List.mem_filter.1 hy).1
  ·rw [List.mem_singleton.1 hy]; exact Dl gx
 ·rcases List.mem_append.1 hy with hy | hy
  ·exact h.cl y (List.mem_filter.1 hy).1
  ·rw [List.mem_singleton.1 hy]; intro hd; have hd:x.Del=true:=hd; show (if x.Del then [] else x.Val)=[]; rw [if_pos hd]
 ·rw [List.map_append,List.map_cons,List.map_nil]
  refine List.nodup_append.2 ⟨List.Nodup.sublist (List.Sublist.map _ List.filter_sublist) h.nd,by simp,fun a ha b hb=>?_⟩
  obtain ⟨y,hy,rfl⟩:=List.mem_map.1 ha
  rw [List.mem_singleton.1 hb]
  have := (List.mem_filter.1 hy).2
  exact fun e=>by rw [show ky (re (clx x))=ky (re x) from rfl] at e; simp [tz,e] at this
 ·have := List.length_filter_le (fun y=>tz (ky (re x)) (re y)) m
  have := h.mlen
  rw [List.length_append,List.length_singleton]; omega
def Lm (r:Int) (m:List aB):List aT:=(m.filter (fun y=>decide (ax y.At=r))).map ver
theorem xu {r:Int} {m:List aB} {v:aT}:v∈Lm r m↔∃ y∈m,ax y.At=r∧ver y=v:=by
 simp only [Lm,List.mem_map,List.mem_filter,decide_eq_true_eq,and_assoc]
theorem vA {n:Nat} {l:List bR} {m:List aB} (h:Inv n l m) (r:Int):(mQ l r).Perm (Lm r m):=by
 have h1:=(iW h.rise r).filter (fun p=>decide (p.1=r))
 rw [List.filter_append] at h1
 have e1:((mQ l r).map (fun v=>(r,v))).filter (fun p=>decide (p.1=r))=(mQ l r).map (fun v=>(r,v)):=List.filter_eq_self.2 fun p hp=>by
  obtain ⟨v,_,rfl⟩:=List.mem_map.1 hp; simp
 have e2:(lD (l.filter (fun x=>rk x !=r))).filter (fun p=>decide (p.1=r))=[]:=List.filter_eq_nil_iff.2 fun p hp=>by
  have := ym hp; simpa using this
 rw [e1,e2,List.append_nil] at h1
 have h2:=(h1.symm.trans (h.pm.filter (fun p=>decide (p.1=r)))).map Prod.snd
 rw [List.map_map,List.filter_map,List.map_map] at h2
 rw [show (Prod.snd ∘ fun v:aT=>(r,v))=id from rfl,List.map_id] at h2
 exact h2
theorem yU {α:Type} {k:α→Int} {l:List α} (h:fJ k l) {a b:α} (ha:a∈l) (hb:b∈l) (e:k a=k b):a=b:=by
 obtain ⟨i,hi,rfl⟩:=List.mem_iff_getElem.1 ha
 obtain ⟨j,hj,rfl⟩:=List.mem_iff_getElem.1 hb
 rcases Nat.lt_trichotomy i j with h1 | h1 | h1
 ·have := h.lt hi hj h1; omega
 ·subst h1; rfl
 ·have := h.lt hj hi h1; omega
def uK (L:List aT) (e:Int):Option aT→Prop
 | none=>∀ v∈L,e<v.Epoch
 | some v=>v∈L∧v.Epoch≤e∧∀ w∈L,w.Epoch≤e→vk w≤vk v
def tj:Option aT→cp
 | none=>{Has:=false,Val:=[]}
 | some v=>bif v.Del then {Has:=false,Val:=[]} else {Has:=true,Val:=v.Val}
theorem Ab {L K:List aT} {e:Int} {o p:Option aT} (hL:fJ vk L) (hp:L.Perm K) (h1:uK L e o) (h2:uK K e p):o=p:=by
 cases o with
 | none =>
  cases p with
  | none=>rfl
  | some v=>have:=h1 v (hp.mem_iff.2 h2.1); have:=h2.2.1; omega
 | some v =>
  cases p with
  | none=>have:=h2 v (hp.mem_iff.1 h1.1); have:=h1.2.1; omega
  | some w =>
   have a:=h1.2.2 w (hp.mem_iff.2 h2.1) h2.2.1
   have b:=h2.2.2 v (hp.mem_iff.1 h1.1) h1.2.1
   rw [yU hL h1.1 (hp.mem_iff.2 h2.1) (by omega)]
def upto (e:Int) (v:aT):Bool:=decide (v.Epoch≤e)
theorem BK {L:List aT} (hr:fJ vk L) (hg:∀ v∈L,vG v) (e:Int):Ahd (upto e) L:=fun a b ha hb hab hp=>by
 have h1:=(zX (hg _ (List.getElem_mem ha)) (hg _ (List.getElem_mem hb))).1 (hr.lt ha hb hab)
 simp only [upto,decide_eq_true_eq] at hp ⊢
 omega
theorem Ej {F:Int×Int→Option ((Int×Int) ⊕ Int)} {L:List aT} (e:Int) (hr:fJ vk L) (hg:∀ v∈L,vG v) (hn:L.length≤1000000)
  (hF : ∀ s,F s=(match s with | (i,j)=>(bif (decide (i<j)) then (((da L (IntKind.i64.wrap (iI .u64 (IntKind.u64.wrap (IntKind.i64.wrap (i+j))) (1:Int)))).bind fun x=>(some (decide (x.Epoch>e)))).bind fun z=>(bif (!z) then (some (Sum.inl ((IntKind.i64.wrap ((IntKind.i64.wrap (iI .u64 (IntKind.u64.wrap (IntKind.i64.wrap (i+j))) (1:Int)))+(1:Int))),j))) else (some (Sum.inl (i,(IntKind.i64.wrap (iI .u64 (IntKind.u64.wrap (IntKind.i64.wrap (i+j))) (1:Int)))))))) else (bt (some i))))) :
  br F ((0:Int),((L.length:Nat):Int))=some ((lb (upto e) L:Nat):Int):=by
 refine uq L (upto e) (by omega) (BK hr hg e) (fun i j k hk hij hke hj=>?_) (fun i j hij=>?_)
 ·have e1:decide ((i:Int)<(j:Int))=true:=by simpa using hij
  have e2:=tu (i:=i) (j:=j) (by omega)
  rw [← hke] at e2
  simp only [hF,e1,cond_true,e2,bl hk,Option.bind_some]
  have e3:IntKind.i64.wrap ((k:Int)+(1:Int))=((k+1:Nat):Int):=wrap_add (a:=k) (b:=1) (by omega)
  by_cases hl:L[k].Epoch≤e
  ·have : ¬ L[k].Epoch>e:=by omega
   simp [upto,hl,e3,this]
  ·have : L[k].Epoch>e:=by omega
   simp [upto,hl,this]
 ·have e1:decide ((i:Int)<(j:Int))=false:=by simpa using hij
  simp only [hF,e1,cond_false,bt,Option.map_some]
theorem Fp {L:List aT} (e:Int) (hr:fJ vk L) (hg:∀ v∈L,vG v):(lb (upto e) L=0∧uK L e none)∨(∃ h:lb (upto e) L - 1<L.length,0<lb (upto e) L∧uK L e (some L[lb (upto e) L - 1])):=by
 have hle:=wV (upto e) L
 have hge:∀ i (h:i<L.length),lb (upto e) L≤i→e<L[i].Epoch:=fun i h hi=>by
  have hk:lb (upto e) L<L.length:=by omega
  have h1:upto e L[lb (upto e) L]=false:=CS hk
  have h2:e<L[lb (upto e) L].Epoch:=by simpa [upto] using h1
  rcases Nat.eq_or_lt_of_le hi with h3 | h3
  ·subst h3; exact h2
  ·have := (zX (hg _ (List.getElem_mem hk)) (hg _ (List.getElem_mem h))).1 (hr.lt hk h h3); omega
 by_cases h0:lb (upto e) L=0
 ·refine .inl ⟨h0,fun v hv=>?_⟩
  obtain ⟨i,hi,rfl⟩:=List.mem_iff_getElem.1 hv
  exact hge i hi (by omega)
 ·have hk:lb (upto e) L - 1<L.length:=by omega
  refine .inr ⟨hk,by omega,List.getElem_mem hk,?_,fun w hw hwe=>?_⟩
  ·have := Dk (p:=upto e) (l:=L) (a:=lb (upto e) L - 1) (by omega)
   simpa [upto] using this
  ·obtain ⟨i,hi,rfl⟩:=List.mem_iff_getElem.1 hw
   have hil:i<lb (upto e) L:=by
    rcases Nat.lt_or_ge i (lb (upto e) L) with h | h
    ·exact h
    ·have := hge i hi h; omega
   rcases Nat.eq_or_lt_of_le (show i≤lb (upto e) L - 1 by omega) with h | h
   ·subst h; exact Int.le_refl _
   ·have := hr.lt hi hk h; omega
theorem oq {L:List aT} (e:Int) (hr:fJ vk L) (hg:∀ v∈L,vG v) (hn:L.length≤1000000) (hv:∀ v∈L,v.Val.length≤1000000):∃ o,uK L e o∧od L e=some (tj o):=by
 have h:=Ej (F:=pg L e) e hr hg hn fun s=>rfl
 simp only [od,h,Option.bind_some]
 rcases Fp e hr hg with ⟨h0,ht⟩ | ⟨hk,h0,ht⟩
 ·refine ⟨none,ht,?_⟩
  rw [h0]; rfl
 ·refine ⟨_,ht,?_⟩
  have hle:=wV (upto e) L
  have e1:((((lb (upto e) L:Nat):Int))==(0:Int))=false:=by simp; omega
  have e2:IntKind.i64.wrap ((((lb (upto e) L:Nat):Int)) - (1:Int))=((lb (upto e) L - 1:Nat):Int):=pE (a:=lb (upto e) L) (b:=1) (by omega) (by omega)
  rw [e1,cond_false,e2,bl hk,Option.bind_some]
  rw [show tj (some L[lb (upto e) L - 1])=(bif L[lb (upto e) L - 1].Del then {Has:=false,Val:=[]} else {Has:=true,Val:=L[lb (upto e) L - 1].Val}) from rfl]
  cases hd:L[lb (upto e) L - 1].Del with
  | true=>rfl
  | false =>
   simp only [cond_false,dM]
   rw [db (jH (by have:=hv _ (List.getElem_mem hk); simp only [List.length_nil]; omega))]
   rfl
theorem Inv.Fc {n:Nat} {l:List bR} {m:List aB} (h:Inv n l m) (r:Int):(mQ l r).length≤n:=by
 rw [(vA h r).length_eq]
 have := List.length_filter_le (fun y:aB=>decide (ax y.At=r)) m
 have := h.mlen
 simp only [Lm,List.length_map]; omega
theorem Inv.EY {n:Nat} {l:List bR} {m:List aB} (h:Inv n l m) {r:Int} {v:aT} (hv:v∈mQ l r):vG v∧v.Val.length≤256∧U8s v.Val:=by
 obtain ⟨y,hy,_,rfl⟩:=xu.1 ((vA h r).mem_iff.1 hv)
 exact (h.xg y hy).2
theorem CJ {n:Nat} {l:List bR} {m:List aB} (h:Inv n l m) (hn:n≤10000) {a:Nat} (ha:isF a) (e:Int):∃ o,uK (mQ l (ax a)) e o∧dW (some {rows:=l}) a e=some (tj o):=by
 obtain ⟨o,h1,h2⟩:=oq e (sv h.rise h.vr (ax a)) (fun v hv=>(h.EY hv).1) (by have:=h.Fc (ax a); omega) (fun v hv=>by have:=(h.EY hv).2.1; omega)
 have hl:=h.EU.len
 simp only [dW,pd ha,Option.bind_some,ui h.rise (show l.length≤1000000 by omega)]
 cases hh:hit rk (ax a) l with
 | false =>
  have e3:mQ l (ax a)=[]:=by
   unfold mQ
   have : hZ rk (ax a) l=none:=by simp [hZ,hh]
   rw [this]
  rw [e3]
  exact ⟨none,fun v hv=>(by cases hv),rfl⟩
 | true =>
  obtain ⟨hk,h3,h4⟩:=jI hh
  have e3:mQ l (ax a)=l[pl rk (ax a) l].l:=by unfold mQ; rw [h4]
  refine ⟨o,h1,?_⟩
  simp only [Bool.not_true,cond_false,bl hk,Option.bind_some]
  rw [← e3,h2]; rfl
def BZ (r e:Int) (y:aB):Prop:=ax y.At=r∧y.Epoch≤e
def wZ (m:List aB) (r e:Int) (i:Nat) (k:Int):Prop:=(k = -1∧∀ j (h:j<m.length),j<i→¬ BZ r e m[j])∨(∃ a,∃ ha:a<m.length,k=(a:Int)∧BZ r e m[a]∧∀ j (h:j<m.length),j<i→BZ r e m[j]→vk (ver m[j])≤vk (ver m[a]))
theorem Bg {m:List aB} (hx:∀ y∈m,xG y) (hn:m.length≤1000000) {a:Nat} (ha:isF a) (e:Int):∃ k,pM m a e=some k∧wZ m (ax a) e m.length k:=by
 unfold pM
 refine nA (body:=ly m a e) (Inv:=fun s=>∃ i:Nat,s.2=(i:Int)∧i≤m.length∧wZ m (ax a) e i s.1) (m:=fun s=>(m.length - s.2).toNat) (Q:=fun k=>wZ m (ax a) e m.length k) (fun s hs=>?_) ⟨0,rfl,Nat.zero_le _,.inl ⟨rfl,fun j _ h=>by omega⟩⟩
 obtain ⟨k,z⟩:=s
 obtain ⟨i,rfl,hi,hT⟩:=hs
 by_cases hil:i<m.length
 ·have hmi:=List.getElem_mem hil
  simp only [ly,gW hil,cond_true,bl hil,Option.bind_some,nC (hx _ hmi).1 ha,bJ (show i≤4294967295 by omega)]
  have keep:¬ BZ (ax a) e m[i]→wZ m (ax a) e (i+1) k:=fun hnm=>by
   rcases hT with ⟨h1,h2⟩ | ⟨b,hb,h1,h2,h3⟩
   ·refine .inl ⟨h1,fun j hj hji=>?_⟩
    rcases Nat.lt_or_ge j i with h | h
    ·exact h2 j hj h
    ·have : j=i:=by omega
     subst this; exact hnm
   ·refine .inr ⟨b,hb,h1,h2,fun j hj hji hm=>?_⟩
    rcases Nat.lt_or_ge j i with h | h
    ·exact h3 j hj h hm
    ·have : j=i:=by omega
     subst this; exact absurd hm hnm
  have fin:∀ k':Int,wZ m (ax a) e (i+1) k'→∃ s',(some (Sum.inl (k',((i+1:Nat):Int))):Option ((Int×Int) ⊕ Int))=some (.inl s')∧(∃ i:Nat,s'.2=(i:Int)∧i≤m.length∧wZ m (ax a) e i s'.1)∧(m.length - s'.2).toNat<(m.length - (i:Int)).toNat:=fun k' hk'=>⟨_,rfl,⟨i+1,rfl,by omega,hk'⟩,by show ((m.length:Int) - ((i+1:Nat):Int)).toNat<_; omega⟩
  left
  by_cases h1:ax m[i].At=ax a
  ·by_cases h2:m[i].Epoch≤e
   ·have hmat:BZ (ax a) e m[i]:=⟨h1,h2⟩
    rcases hT with ⟨h3,h4⟩ | ⟨b,hb,h3,h4,h5⟩
    ·subst h3
     have := fin (i:Int) (.inr ⟨i,hil,rfl,hmat,fun j hj hji hm=>by
      rcases Nat.lt_or_ge j i with h | h
      ·exact absurd hm (h4 j hj h)
      ·have : j=i:=by omega
       subst this; exact Int.le_refl _⟩)
     simpa [h1,h2] using this
    ·subst h3
     have hg1:=(hx _ (List.getElem_mem hb)).2.1
     have hg2:=(hx _ hmi).2.1
     have hb0:¬ ((b:Int)<0):=by omega
     have hlt:=zX hg1 hg2
     by_cases h6:vk (ver m[b])<vk (ver m[i])
     ·have := fin (i:Int) (.inr ⟨i,hil,rfl,hmat,fun j hj hji hm=>by
       rcases Nat.lt_or_ge j i with h | h
       ·have := h5 j hj h hm; omega
       ·have : j=i:=by omega
        subst this; exact Int.le_refl _⟩)
      have h7:m[b].Epoch<m[i].Epoch∨(m[b].Epoch=m[i].Epoch∧m[b].Index<m[i].Index):=hlt.1 h6
      by_cases h8:m[b].Epoch<m[i].Epoch
      ·simpa [h1,h2,hb0,bl hb,h8] using this
      ·have h9:=h7.resolve_left h8
       simpa [h1,h2,hb0,bl hb,h9.1,h9.2] using this
     ·have := fin (b:Int) (.inr ⟨b,hb,rfl,h4,fun j hj hji hm=>by
       rcases Nat.lt_or_ge j i with h | h
       ·exact h5 j hj h hm
       ·have : j=i:=by omega
        subst this; omega⟩)
      have h7:¬ (m[b].Epoch<m[i].Epoch∨(m[b].Epoch=m[i].Epoch∧m[b].Index<m[i].Index)):=fun h=>h6 (hlt.2 h)
      have h8:¬ m[b].Epoch<m[i].Epoch:=fun h=>h7 (.inl h)
      by_cases h9:m[b].Epoch=m[i].Epoch
      ·have h10:¬ m[b].Index<m[i].Index:=fun h=>h7 (.inr ⟨h9,h⟩)
       simpa [h1,h2,hb0,bl hb,h9,h10] using this
      ·have h11:(m[b].Epoch==m[i].Epoch)=false:=by simpa using h9
       simpa [h1,h2,hb0,bl hb,h8,h11] using this
   ·have := fin k (keep fun h=>h2 h.2)
    simpa [h1,h2] using this
  ·have := fin k (keep fun h=>h1 h.1)
   simpa [h1] using this
 ·have e1:i=m.length:=by omega
  subst e1
  refine .inr ⟨k,?_,hT⟩
  simp [ly,bt]
theorem AT {m:List aB} (hx:∀ y∈m,xG y) (hn:m.length≤1000000) {a:Nat} (ha:isF a) (e:Int):∃ o,uK (Lm (ax a) m) e o∧iU m a e=some (tj o):=by
 obtain ⟨k,h1,h2⟩:=Bg hx hn ha e
 simp only [iU,h1,Option.bind_some]
 rcases h2 with ⟨rfl,h3⟩ | ⟨b,hb,rfl,h4,h5⟩
 ·refine ⟨none,fun v hv=>?_,rfl⟩
  obtain ⟨y,hy,h6,rfl⟩:=xu.1 hv
  obtain ⟨j,hj,rfl⟩:=List.mem_iff_getElem.1 hy
  have := h3 j hj hj
  rcases Int.lt_or_le e (ver m[j]).Epoch with h | h
  ·exact h
  ·exact absurd ⟨h6,h⟩ this
 ·refine ⟨some (ver m[b]),⟨xu.2 ⟨_,List.getElem_mem hb,h4.1,rfl⟩,h4.2,fun w hw hwe=>?_⟩,?_⟩
  ·obtain ⟨y,hy,h6,rfl⟩:=xu.1 hw
   obtain ⟨j,hj,rfl⟩:=List.mem_iff_getElem.1 hy
   exact h5 j hj hj ⟨h6,hwe⟩
  ·have hb0:decide ((b:Int)<0)=false:=by simp
   rw [hb0,cond_false,bl hb,Option.bind_some]
   rw [show tj (some (ver m[b]))=(bif m[b].Del then {Has:=false,Val:=[]} else {Has:=true,Val:=m[b].Val}) from rfl]
   cases m[b].Del <;> rfl
theorem qB {n:Nat} {l:List bR} {m:List aB} (h:Inv n l m) (hn:n≤10000) {a:Nat} (ha:isF a) (e:Int):∃ o,uK (mQ l (ax a)) e o∧dW (some {rows:=l}) a e=some (tj o)∧iU m a e=some (tj o):=by
 obtain ⟨o,h1,h2⟩:=CJ h hn ha e
 obtain ⟨p,h3,h4⟩:=AT h.xg (by have:=h.mlen; omega) ha e
 have : o=p:=Ab (sv h.rise h.vr _) (vA h _) h1 h3
 subst this
 exact ⟨o,h1,h2,h4⟩
theorem AM (g:cp):fN [g] [g]=some true:=by
 have h:=dz (body:=fh [g] [g]) (fun i=>(i:Int)) 1 true (fun i hi=>by
  have : i=0:=by omega
  subst this
  simp [fh,da,oc,bJ (i:=0)]
  rfl) (by simp [fh,bt])
 have e:((([g]:List cp).length:Int) !=(([g]:List cp).length:Int))=false:=by simp
 unfold fN
 rw [e,cond_false]
 exact h
end Go.Proofs.YtgnkkopjkgdieaaGreat

end
section
set_option linter.unusedVariables false
set_option linter.unusedSimpArgs false
set_option maxRecDepth 100000
namespace Go.Proofs.YtgnkkopjkgdieaaGreat
open Go Go.V
theorem DX {A:List Nat} {k:Nat} {x:Nat} (hk:k≤A.length):nc A (0:Int) (k:Int)++[x]++nc A (k:Int) (((A.length:Nat):Int))=A.take k++x::A.drop k:=by
 unfold nc
 rw [Int.toNat_natCast,Int.toNat_natCast,List.take_length,show (0:Int).toNat=0 from rfl,List.drop_zero,List.append_assoc]
 rfl
theorem yy {α:Type} {A:List α} {i j:Nat} (h1:i≤j) (h2:j≤A.length):fits A (i:Int) (j:Int)=true:=by
 unfold fits
 simp
 omega
theorem FM {A:List Nat} {m:List aB} {i:Nat} (hi:i<m.length) (hA:∀ a∈A,isF a) (hx:isF m[i].At) (hr:fJ ax A) (hn:A.length≤1000000):br (kz A m (i:Int)) (0:Int)=some ((pl ax (ax m[i].At) A:Nat):Int):=by
 have hle:=uc ax (ax m[i].At) A
 refine dz (fun j=>(j:Int)) (pl ax (ax m[i].At) A) _ (fun j hj=>?_) ?_
 ·have hjA:j<A.length:=by omega
  have h1:ax A[j]<ax m[i].At:=AA hjA hj
  simp only [kz,gW hjA,cond_true,bl hjA,bl hi,Option.bind_some,oB (hA _ (List.getElem_mem hjA)) hx,h1,decide_true,bJ (show j≤4294967295 by omega)]
 ·by_cases hk:pl ax (ax m[i].At) A<A.length
  ·have h1:=AD (s:=ax m[i].At) hr hk (Nat.le_refl _)
   have h2:¬ ax A[pl ax (ax m[i].At) A]<ax m[i].At:=by omega
   simp only [kz,gW hk,cond_true,bl hk,bl hi,Option.bind_some,oB (hA _ (List.getElem_mem hk)) hx,h2,decide_false,cond_false,bt,Option.map_some]
  ·have e:decide (((pl ax (ax m[i].At) A:Nat):Int)<((A.length:Nat):Int))=false:=by simp; omega
   simp only [kz,e,cond_false,bt,Option.map_some]
def wB (A:List Nat) (x:Nat):List Nat:=bif hit ax (ax x) A then A else kq ax A x
theorem FP {A:List Nat} {m:List aB} {i:Nat} (hi:i<m.length) (hA:∀ a∈A,isF a) (hx:isF m[i].At) (hn:A.length≤1000000) (hi2:i≤1000000) :
  kA A m (i:Int) ((pl ax (ax m[i].At) A:Nat):Int)=some (Sum.inl (wB A m[i].At,((i+1:Nat):Int))):=by
 have hle:=uc ax (ax m[i].At) A
 have hins:(gd (fits A (0:Int) ((pl ax (ax m[i].At) A:Nat):Int)) (gd (room ([]:List Nat) (nc A (0:Int) ((pl ax (ax m[i].At) A:Nat):Int))) (gd (room (nc A (0:Int) ((pl ax (ax m[i].At) A:Nat):Int)) ([m[i].At])) (gd (fits A ((pl ax (ax m[i].At) A:Nat):Int) (((A).length:Nat):Int)) (gd (room ((nc A (0:Int) ((pl ax (ax m[i].At) A:Nat):Int))++([m[i].At])) (nc A ((pl ax (ax m[i].At) A:Nat):Int) (((A).length:Nat):Int))) (some (Sum.inl ((((nc A (0:Int) ((pl ax (ax m[i].At) A:Nat):Int))++([m[i].At]))++(nc A ((pl ax (ax m[i].At) A:Nat):Int) (((A).length:Nat):Int))),((i+1:Nat):Int)))))))):Option ((List Nat×Int) ⊕ List Nat))=some (Sum.inl (A.take (pl ax (ax m[i].At) A)++m[i].At::A.drop (pl ax (ax m[i].At) A),((i+1:Nat):Int))):=by
  have l1:(nc A (0:Int) ((pl ax (ax m[i].At) A:Nat):Int)).length≤1000000:=by unfold nc; simp only [List.length_drop,List.length_take]; omega
  have l2:(nc A ((pl ax (ax m[i].At) A:Nat):Int) ((A.length:Nat):Int)).length≤1000000:=by unfold nc; simp only [List.length_drop,List.length_take]; omega
  rw [db (show fits A (0:Int) _=true from yy (i:=0) (Nat.zero_le _) hle),db (jH (by simp only [List.length_nil]; omega)),db (jH (by simp only [List.length_singleton]; omega)),db (yy hle (Nat.le_refl _)),db (jH (by simp only [List.length_append,List.length_singleton]; omega)),DX hle]
 unfold wB kq pr
 cases hh:hit ax (ax m[i].At) A with
 | true =>
  obtain ⟨hk,h1,h2⟩:=jI hh
  simp only [kA,gW hk,cond_true,bl hk,bl hi,Option.bind_some,nC (hA _ (List.getElem_mem hk)) hx,h1,decide_true,bJ (show i≤4294967295 by omega)]
 | false =>
  simp only [cond_false]
  by_cases hk:pl ax (ax m[i].At) A<A.length
  ·have h1:¬ ax A[pl ax (ax m[i].At) A]=ax m[i].At:=fun e=>by
    have : hit ax (ax m[i].At) A=true:=by unfold hit; rw [List.getElem?_eq_getElem hk]; simpa using e
    rw [this] at hh; cases hh
   simp only [kA,gW hk,cond_true,bl hk,bl hi,Option.bind_some,nC (hA _ (List.getElem_mem hk)) hx,h1,decide_false,cond_false,bJ (show i≤4294967295 by omega)]
   exact hins
  ·have e:decide (((pl ax (ax m[i].At) A:Nat):Int)<((A.length:Nat):Int))=false:=by simp; omega
   simp only [kA,e,cond_false,bl hi,Option.bind_some,bJ (show i≤4294967295 by omega)]
   exact hins
theorem Be {A:List Nat} (h:fJ ax A) (x:Nat):fJ ax (wB A x):=by
 unfold wB; cases hit ax (ax x) A with
 | true=>exact h
 | false=>exact po h x
theorem Cu {A:List Nat} (h:fJ ax A) (x:Nat) (r:Int):(∃ a∈wB A x,ax a=r)↔(∃ a∈A,ax a=r)∨ax x=r:=by
 unfold wB
 cases hh:hit ax (ax x) A with
 | true =>
  obtain ⟨hk,h1,_⟩:=jI hh
  refine ⟨.inl,fun h=>h.elim id fun e=>⟨_,List.getElem_mem hk,h1.trans e⟩⟩
 | false =>
  simp only [cond_false]
  constructor
  ·rintro ⟨a,ha,e⟩
   rcases (kW h x a).1 ha with rfl | ⟨h1,_⟩
   ·exact .inr e
   ·exact .inl ⟨a,h1,e⟩
  ·rintro (⟨a,ha,e⟩ | e)
   ·by_cases h2:ax a=ax x
    ·exact ⟨x,(kW h x x).2 (.inl rfl),h2 ▸ e⟩
    ·exact ⟨a,(kW h x a).2 (.inr ⟨ha,h2⟩),e⟩
   ·exact ⟨x,(kW h x x).2 (.inl rfl),e⟩
theorem Fq {A:List Nat} (h:fJ ax A) {x:Nat} (hA:∀ a∈A,isF a) (hx:isF x):∀ a∈wB A x,isF a:=by
 unfold wB
 cases hit ax (ax x) A with
 | true=>exact hA
 | false =>
  intro a ha
  rcases (kW h x a).1 ha with rfl | ⟨h1,_⟩
  ·exact hx
  ·exact hA a h1
theorem Cx {A:List Nat} (h:fJ ax A) (x:Nat):(wB A x).length≤A.length+1:=by
 unfold wB
 cases hit ax (ax x) A with
 | true=>simp only [cond_true]; omega
 | false=>exact rB h x
structure Ats (m:List aB) (A:List Nat):Prop where
 rise : fJ ax A
 f : ∀ a∈A,isF a
 mem : ∀ r,(∃ a∈A,ax a=r)↔∃ y∈m,ax y.At=r
 len : A.length≤m.length
theorem EK {m:List aB} (hx:∀ y∈m,isF y.At) (hn:m.length≤1000000):∃ A,qA m=some A∧Ats m A:=by
 unfold qA
 refine nA (body:=mg m) (Inv:=fun s=>∃ i:Nat,s.2=(i:Int)∧i≤m.length∧Ats (m.take i) s.1) (m:=fun s=>(m.length - s.2).toNat) (Q:=fun A=>Ats m A) (fun s hs=>?_) ⟨0,rfl,Nat.zero_le _,⟨pD,fun a h=>(by cases h),fun r=>(by simp),by simp⟩⟩
 obtain ⟨A,z⟩:=s
 obtain ⟨i,rfl,hi,hA⟩:=hs
 dsimp only at hA
 have hAl:=hA.len
 rw [List.length_take] at hAl
 by_cases hil:i<m.length
 ·have hmi:=List.getElem_mem hil
  left
  simp only [mg,gW hil,cond_true,FM hil hA.f (hx _ hmi) hA.rise (by omega),Option.bind_some,FP hil hA.f (hx _ hmi) (by omega) (by omega)]
  refine ⟨_,rfl,⟨i+1,rfl,by omega,⟨Be hA.rise _,Fq hA.rise hA.f (hx _ hmi),fun r=>?_,?_⟩⟩,by dsimp only; omega⟩
  ·rw [Cu hA.rise,hA.mem,List.take_succ_eq_append_getElem hil]
   simp only [List.mem_append,List.mem_singleton]
   constructor
   ·rintro (⟨y,hy,e⟩ | e)
    ·exact ⟨y,.inl hy,e⟩
    ·exact ⟨_,.inr rfl,e⟩
   ·rintro ⟨y,hy | rfl,e⟩
    ·exact .inl ⟨y,hy,e⟩
    ·exact .inr e
  ·have := Cx hA.rise m[i].At
   dsimp only
   rw [List.length_take]; omega
 ·have e1:i=m.length:=by omega
  subst e1
  right
  rw [List.take_length] at hA
  exact ⟨A,by simp [mg,bt],hA⟩
theorem CE {n:Nat} {l:List bR} {m:List aB} {A:List Nat} (h:Inv n l m) (hA:Ats m A):l.map rk=A.map ax:=by
 refine yg (k:=id) (List.pairwise_map.2 h.rise) (List.pairwise_map.2 hA.rise) fun r=>?_
 rw [List.mem_map,List.mem_map]
 have : (∃ a∈A,ax a=r)↔∃ y∈m,ax y.At=r:=hA.mem r
 rw [this]
 constructor
 ·rintro ⟨x,hx,e⟩
  obtain ⟨v,hv⟩:=List.exists_mem_of_ne_nil _ (h.ne x hx)
  obtain ⟨y,hy,e2⟩:=List.mem_map.1 (h.pm.mem_iff.1 (tV.2 ⟨x,hx,rfl,hv⟩:(x.rank,v)∈lD l))
  exact ⟨y,hy,(congrArg Prod.fst e2).trans e⟩
 ·rintro ⟨y,hy,e⟩
  obtain ⟨x,hx,h1,_⟩:=tV.1 (h.pm.mem_iff.2 (List.mem_map.2 ⟨y,hy,rfl⟩))
  exact ⟨x,hx,h1.trans e⟩
theorem DW:Inv 0 [] []:=⟨pD,fun x h=>(by cases h),fun x h=>(by cases h),List.Perm.refl _,fun x h=>(by cases h),fun x h=>(by cases h),by simp,by simp⟩
theorem Inv.up {n k:Nat} {l:List bR} {m:List aB} (h:Inv n l m) (hk:n≤k):Inv k l m:=⟨h.rise,h.ne,h.vr,h.pm,h.xg,h.cl,h.nd,Nat.le_trans h.mlen hk⟩
end Go.Proofs.YtgnkkopjkgdieaaGreat

end
section
set_option linter.unusedVariables false
set_option linter.unusedSimpArgs false
set_option maxRecDepth 100000
namespace Go.Proofs.YtgnkkopjkgdieaaGreat
open Go Go.V
theorem xj {q:Nat→Bool} {i n:Nat} (h:i≤n):∃ t,(List.range n).filter q=(List.range i).filter q++t∧((∀ j,i≤j→j<n→q j=false)→t=[]):=by
 obtain ⟨k,rfl⟩:=Nat.exists_eq_add_of_le h
 refine ⟨((List.range k).map (i + ·)).filter q,by rw [List.range_add,List.filter_append],fun hq=>List.filter_eq_nil_iff.2 fun j hj=>?_⟩
 obtain ⟨x,hx,rfl⟩:=List.mem_map.1 hj
 rw [hq (i+x) (by omega) (by have:=List.mem_range.1 hx; omega)]
 simp
theorem xc {β:Type} {body:List β×Int→Option ((List β×Int) ⊕ List β)} (n p M:Nat) (q:Nat→Bool) (f:Nat→β) (stp:Nat→Bool) (hp:p≤n) (hq0:∀ j,j<p→q j=false)
  (h1 : ∀ (i:Nat),i<n→p≤i→∀ out:List β,out.length≤i→body (out,(i:Int))=some (bif stp i then .inr out else bif decide (out.length<M) then .inl (bif q i then out++[f i] else out,((i+1:Nat):Int)) else .inr out))
  (hs : ∀ i,i<n→stp i=true→∀ j,i≤j→j<n→q j=false)
  (h2 : ∀ out:List β,body (out,(n:Int))=some (.inr out)):br body ([],(p:Int))=some ((((List.range n).filter q).take M).map f):=by
 obtain ⟨r,h3,h4⟩:=nA (body:=body) (Inv:=fun s=>∃ i:Nat,s.2=(i:Int)∧i≤n∧p≤i∧s.1=(((List.range i).filter q).take M).map f) (m:=fun s=>(n - s.2).toNat) (Q:=fun r=>r=(((List.range n).filter q).take M).map f) (fun s hs'=>by
  obtain ⟨out,z⟩:=s
  obtain ⟨i,rfl,hi,hpi,ho⟩:=hs'
  dsimp only at ho
  subst ho
  have hlen:((((List.range i).filter q).take M).map f).length≤i:=by
   have := List.length_filter_le q (List.range i)
   rw [List.length_range] at this
   rw [List.length_map,List.length_take]; omega
  by_cases hin:i<n
  ·rw [h1 i hin hpi _ hlen]
   cases hst:stp i with
   | true =>
    right
    obtain ⟨t,ht,ht0⟩:=xj (q:=q) hi
    exact ⟨_,rfl,by rw [ht,ht0 (hs i hin hst),List.append_nil]⟩
   | false =>
    by_cases hM:((((List.range i).filter q).take M).map f).length<M
    ·left
     rw [cond_false,decide_eq_true hM,cond_true]
     refine ⟨_,rfl,⟨i+1,rfl,by omega,by omega,?_⟩,by dsimp only; omega⟩
     have hl:((List.range i).filter q).length<M:=by
      rw [List.length_map,List.length_take] at hM; omega
     dsimp only
     rw [List.range_succ,List.filter_append,List.take_of_length_le (show ((List.range i).filter q).length≤M by omega)]
     cases hqi:q i with
     | true =>
      have e:[i].filter q=[i]:=by simp [hqi]
      rw [e,List.take_of_length_le (by rw [List.length_append,List.length_singleton]; omega),List.map_append]; rfl
     | false =>
      have e:[i].filter q=[]:=by simp [hqi]
      rw [e,List.append_nil,List.take_of_length_le (by omega)]; rfl
    ·right
     rw [cond_false,decide_eq_false hM,cond_false]
     refine ⟨_,rfl,?_⟩
     obtain ⟨t,ht,_⟩:=xj (q:=q) hi
     rw [ht,List.take_append_of_le_length]
     rw [List.length_map,List.length_take] at hM; omega
  ·have e:i=n:=by omega
   subst e
   exact .inr ⟨_,h2 _,rfl⟩) (s:=(([]:List β),(p:Int))) ⟨p,rfl,hp,Nat.le_refl _,by
    have : (List.range p).filter q=[]:=List.filter_eq_nil_iff.2 fun j hj=>by rw [hq0 j (List.mem_range.1 hj)]; simp
    rw [this]; simp⟩
 rw [h3,h4]
theorem Di {l:List bR} (hr:fJ rk l) {x:bR} (hx:x∈l):mQ l x.rank=x.l:=by
 unfold mQ
 rw [show hZ rk x.rank l=some x from (kl hr).2 ⟨hx,rfl⟩]
theorem AI {x:Nat} (hx:isF x):∃ f,jz (ax x)=some f∧isF f∧ax f=ax x:=by
 cases hn:mI x with
 | false=>exact ⟨x,wP hx hn,hx,rfl⟩
 | true =>
  have e:ax x=((18446744073709551615:Nat):Int):=by unfold ax; rw [hn]; rfl
  refine ⟨9223372036854775807,?_,by unfold isF; decide,?_⟩
  ·rw [e,back_eq (by decide)]; rfl
  ·rw [e]; decide
theorem Bi {a lo hi:Nat} (ha:isF a) (h1:isF lo) (h2:isF hi):jN a lo hi=some (decide (ax lo≤ax a)&&decide (ax a≤ax hi)):=by
 unfold jN
 rw [oB ha h1,oB h2 ha]
 by_cases c1:ax a<ax lo
 ·have c2:¬ ax lo≤ax a:=by omega
  simp [c1,c2]
 ·have c2:ax lo≤ax a:=by omega
  by_cases c3:ax hi<ax a
  ·have c4:¬ ax a≤ax hi:=by omega
   simp [c1,c2,c3,c4]
  ·have c4:ax a≤ax hi:=by omega
   simp [c1,c2,c3,c4]
theorem zp {a b:List bM} (hl:a.length=b.length) (hn:a.length≤1000000) (h:∀ i (ha:i<a.length) (hb:i<b.length),isF a[i].At∧isF b[i].At∧ax a[i].At=ax b[i].At∧a[i].Val=b[i].Val):gB a b=some true:=by
 have e:(((a.length:Nat):Int) !=((b.length:Nat):Int))=false:=by simp [hl]
 unfold gB
 rw [e,cond_false]
 refine dz (fun i=>(i:Int)) a.length true (fun i hi=>?_) (by simp [fw,bt])
 have hb:i<b.length:=by omega
 obtain ⟨f1,f2,f3,f4⟩:=h i hi hb
 simp only [fw,gW hi,cond_true,bl hi,bl hb,Option.bind_some,nC f1 f2,f3,decide_true,Bool.not_true,cond_false,f4,oc,bJ (show i≤4294967295 by omega)]
noncomputable def xI (m:List aB) (A:List Nat) (e:Int) (i:Nat):cp:=(iU m ((A[i]?).getD 0) e).getD {Has:=false,Val:=[]}
theorem ux {n:Nat} {l:List bR} {m:List aB} (h:Inv n l m) (hn:n≤10000) {lo hi:Nat} (hlo:isF lo) (hhi:isF hi) (e most:Int) :
  ∃ P Q,ft (some {rows:=l}) lo hi e most=some P∧lS m lo hi e most=some Q∧gB P Q=some true:=by
 have hm:=h.mlen
 have g:=h.EU
 have hln:=g.len
 obtain ⟨A,hA,gA⟩:=EK (fun y hy=>(h.xg y hy).1) (show m.length≤1000000 by omega)
 have hra:=CE h gA
 have hll:l.length=A.length:=by have:=congrArg List.length hra; simpa using this
 have hrank:∀ i (h1:i<l.length) (h2:i<A.length),l[i].rank=ax A[i]:=fun i h1 h2=>by
  have := congrArg (fun t=>t[i]?) hra
  simp only [List.getElem?_map,List.getElem?_eq_getElem h1,List.getElem?_eq_getElem h2,Option.map_some] at this
  exact some_inj this
 have hgot:∀ i (h1:i<l.length) (h2:i<A.length),iU m A[i] e=some (xI m A e i)∧od l[i].l e=some (xI m A e i):=fun i h1 h2=>by
  have hF:=gA.f _ (List.getElem_mem h2)
  obtain ⟨o,q1,_,q3⟩:=qB h hn hF e
  have hm1:=List.getElem_mem h1
  have hrow:mQ l (ax A[i])=l[i].l:=by rw [← hrank i h1 h2]; exact Di h.rise hm1
  rw [hrow] at q1
  obtain ⟨p,r1,r2⟩:=oq e (g.vr _ hm1) (g.vg _ hm1) (by have:=g.vl _ hm1; omega) (fun v hv=>by
   have := (h.EY (r:=l[i].rank) (by rw [Di h.rise hm1]; exact hv)).2.1; omega)
  have hop:o=p:=Ab (g.vr _ hm1) (List.Perm.refl _) q1 r1
  subst hop
  have hgi:xI m A e i=tj o:=by unfold xI; rw [List.getElem?_eq_getElem h2,Option.getD_some,q3,Option.getD_some]
  rw [hgi]; exact ⟨q3,r2⟩
 let q:Nat→Bool:=fun i=>(xI m A e i).Has&&(decide (ax lo≤ax ((A[i]?).getD 0))&&decide (ax ((A[i]?).getD 0)≤ax hi))
 let fS:Nat→bM:=fun i=>{At:=(jz (ax ((A[i]?).getD 0))).getD 0,Val:=(xI m A e i).Val}
 let fR:Nat→bM:=fun i=>{At:=(A[i]?).getD 0,Val:=(xI m A e i).Val}
 have hR:br (lf A most m e lo hi) ([],(0:Int))=some ((((List.range A.length).filter q).take most.toNat).map fR):=by
  refine xc A.length 0 most.toNat q fR (fun _=>false) (Nat.zero_le _) (fun j h=>by omega) (fun i hi' _ out ho=>?_) (fun i _ h=>by cases h) (fun out=>by simp [lf,bt])
  have hF:=gA.f _ (List.getElem_mem hi')
  have e0:(A[i]?).getD 0=A[i]:=by rw [List.getElem?_eq_getElem hi',Option.getD_some]
  have em:decide (((out.length:Nat):Int)<most)=decide (out.length<most.toNat):=by
   rw [Bool.eq_iff_iff]; simp only [decide_eq_true_eq]; omega
  simp only [lf,gW hi',cond_true,em,cond_false,bl hi',Option.bind_some,(hgot i (by omega) hi').1,Bi hF hlo hhi,bJ (show i≤4294967295 by omega),q,fR,e0]
  cases decide (out.length<most.toNat) with
  | false=>simp [bt]
  | true =>
   simp only [cond_true]
   cases (xI m A e i).Has with
   | false=>simp
   | true =>
    simp only [cond_true,Bool.true_and]
    cases decide (ax lo≤ax A[i])&&decide (ax A[i]≤ax hi) with
    | false=>rfl
    | true =>
     simp only [cond_true]
     rw [db (fa (by omega))]
 have hS:br (gI {rows:=l} hi most e) ([],((pl rk (ax lo) l:Nat):Int))=some ((((List.range A.length).filter q).take most.toNat).map fS):=by
  refine xc A.length (pl rk (ax lo) l) most.toNat q fS (fun i=>!(decide (ax ((A[i]?).getD 0)≤ax hi))) (by rw [← hll]; exact uc _ _ _) (fun j hj=>?_) (fun i hi' hpi out ho=>?_) (fun i hi' hst j hij hj=>?_) (fun out=>by simp [gI,bt,hll])
  ·have hjl:j<l.length:=Nat.lt_of_lt_of_le hj (uc _ _ _)
   have h1:rk l[j]<ax lo:=AA hjl hj
   have e0:(A[j]?).getD 0=A[j]'(by omega):=by rw [List.getElem?_eq_getElem (by omega),Option.getD_some]
   have h2:¬ ax lo≤ax (A[j]'(by omega)):=by rw [← hrank j hjl (by omega)]; exact Int.not_le.2 h1
   simp only [q,e0,decide_eq_false h2,Bool.false_and,Bool.and_false]
  ·have hil:i<l.length:=by omega
   have hF:=gA.f _ (List.getElem_mem hi')
   have e0:(A[i]?).getD 0=A[i]:=by rw [List.getElem?_eq_getElem hi',Option.getD_some]
   have em:decide (((out.length:Nat):Int)<most)=decide (out.length<most.toNat):=by
    rw [Bool.eq_iff_iff]; simp only [decide_eq_true_eq]; omega
   obtain ⟨f,b1,b2,b3⟩:=AI hF
   simp only [gI,gW hil,cond_true,em,bl hil,Option.bind_some,pd hhi,hrank i hil hi',(hgot i hil hi').2,b1,bJ (show i≤4294967295 by omega),q,fS,e0,Option.getD_some]
   have h1:ax lo≤ax A[i]:=by rw [← hrank i hil hi']; exact AD (s:=ax lo) h.rise hil hpi
   by_cases h2:ax A[i]≤ax hi
   ·simp only [decide_eq_true h1,decide_eq_true h2,cond_true,Bool.not_true,cond_false,Bool.and_true]
    cases decide (out.length<most.toNat) with
    | false=>simp [bt]
    | true =>
     simp only [cond_true]
     cases (xI m A e i).Has with
     | false=>simp
     | true =>
      simp only [cond_true]
      rw [db (fa (by omega))]
   ·simp only [decide_eq_false h2,cond_false,Bool.not_false,cond_true,bt,Option.map_some]
  ·have e0:(A[i]?).getD 0=A[i]:=by rw [List.getElem?_eq_getElem hi',Option.getD_some]
   have e1:(A[j]?).getD 0=A[j]:=by rw [List.getElem?_eq_getElem hj,Option.getD_some]
   rw [e0] at hst
   have h2:¬ ax A[i]≤ax hi:=by simpa using hst
   have h3:¬ ax A[j]≤ax hi:=by
    rcases Nat.eq_or_lt_of_le hij with hq | hq
    ·subst hq; exact h2
    ·have := gA.rise.lt hi' hj hq; omega
   simp only [q,e1,decide_eq_false h3,Bool.and_false]
 have hlen:(((List.range A.length).filter q).take most.toNat).length≤1000000:=by
  have := List.length_filter_le q (List.range A.length)
  rw [List.length_range] at this
  have := gA.len
  rw [List.length_take]; omega
 refine ⟨_,_,?_,?_,zp (a:=(((List.range A.length).filter q).take most.toNat).map fS) (b:=(((List.range A.length).filter q).take most.toNat).map fR) (by rw [List.length_map,List.length_map]) (by rw [List.length_map]; exact hlen) fun i ha hb=>?_⟩
 ·simp only [ft,pd hlo,Option.bind_some,ui h.rise (show l.length≤1000000 by omega),hS]
 ·simp only [lS,hA,Option.bind_some,hR]
 ·rw [List.getElem_map,List.getElem_map]
  rw [List.length_map] at ha
  have hmem:=List.getElem_mem ha
  generalize (((List.range A.length).filter q).take most.toNat)[i]=j at hmem ⊢
  have hj:j<A.length:=List.mem_range.1 (List.mem_filter.1 (List.mem_of_mem_take hmem)).1
  have hF:=gA.f _ (List.getElem_mem hj)
  obtain ⟨f,b1,b2,b3⟩:=AI hF
  have e1:(A[j]?).getD 0=A[j]:=by rw [List.getElem?_eq_getElem hj,Option.getD_some]
  simp only [fS,fR,e1,b1,Option.getD_some]
  exact ⟨b2,hF,b3,trivial⟩
end Go.Proofs.YtgnkkopjkgdieaaGreat

end
section
set_option linter.unusedVariables false
set_option linter.unusedSimpArgs false
set_option maxRecDepth 100000
namespace Go.Proofs.YtgnkkopjkgdieaaGreat
open Go Go.V
def ff (l:List aN):Prop:=l.Pairwise fun a b=>a.session<b.session
def uD (s:Int) (x:aN):Bool:=decide (x.session<s)
theorem ff.lt {l:List aN} (h:ff l) {a b:Nat} (ha:a<l.length) (hb:b<l.length) (hab:a<b):l[a].session<l[b].session:=List.pairwise_iff_getElem.1 h a b ha hb hab
theorem ff.ahd {l:List aN} (h:ff l) (s:Int):Ahd (uD s) l:=fun a b ha hb hab hp=>by
 have := h.lt ha hb hab
 simp only [uD,decide_eq_true_eq] at hp ⊢
 omega
theorem wY (a b:Int):dx a b=some (if a<b then -1 else if a>b then 1 else 0):=by
 have h1:(a !=a)=false:=by simp
 have h2:(b !=b)=false:=by simp
 simp only [dx,iT,Option.bind_some,h1,h2,cond_false]
 by_cases h:a<b
 ·simp [h]
 ·by_cases h':a>b
  ·simp [h,h']
  ·simp [h,h']
def gF (s:Int) (l:List aN):Nat:=lb (uD s) l
def pW (s:Int) (l:List aN):Bool:=match l[gF s l]? with | some x=>x.session==s | none=>false
theorem um {l:List aN} (h:ff l) (hn:l.length≤1000000) (s:Int):eP (some {l:=l}) s=some (((gF s l:Nat):Int),pW s l):=by
 have hs:br (fk {l:=l} s) (((l.length:Nat):Int),(0:Int))=some ((lb (uD s) l:Nat):Int):=by
  refine pX (R:=Int) l (uD s) (by omega) (h.ahd s) (fun i j k hk hij hke hj=>?_) (fun i j hij=>?_)
  ·have e1:decide ((i:Int)<(j:Int))=true:=by simpa using hij
   have e2:=tu (i:=i) (j:=j) (by omega)
   rw [← hke] at e2
   simp only [fk,e1,cond_true,e2,bl hk,Option.bind_some,fH,wY]
   have e3:IntKind.i64.wrap ((k:Int)+(1:Int))=((k+1:Nat):Int):=wrap_add (a:=k) (b:=1) (by omega)
   by_cases hl:l[k].session<s
   ·simp [uD,hl,e3]
   ·have : ¬ (if l[k].session>s then (1:Int) else 0)<0:=by split <;> omega
    simp [uD,hl,this]
  ·have e1:decide ((i:Int)<(j:Int))=false:=by simpa using hij
   simp only [fk,e1,cond_false,bt,Option.map_some]
 simp only [eP,hs,Option.bind_some,jo]
 rw [show lb (uD s) l=gF s l from rfl]
 unfold pW
 by_cases hk:gF s l<l.length
 ·have e1:decide (((gF s l:Nat):Int)<(l.length:Int))=true:=by simpa using hk
  rw [e1,cond_true,bl hk,Option.bind_some]
  simp only [fH,wY,Option.bind_some,List.getElem?_eq_getElem hk]
  by_cases h1:l[gF s l].session<s
  ·have h2:¬ l[gF s l].session=s:=by omega
   simp [h1,h2]
  ·by_cases h2:l[gF s l].session>s
   ·have h3:¬ l[gF s l].session=s:=by omega
    simp [h1,h2,h3]
   ·have h3:l[gF s l].session=s:=by omega
    simp [h1,h2,h3]
 ·have e1:decide (((gF s l:Nat):Int)<(l.length:Int))=false:=by simpa using hk
  rw [e1,cond_false,List.getElem?_eq_none (by omega)]
  rfl
theorem Dy (s:Int) (l:List aN):gF s l≤l.length:=wV _ _
theorem Ap {s:Int} {l:List aN} {a:Nat} (h:a<l.length) (hp:a<gF s l):l[a].session<s:=by
 have := Dk (p:=uD s) (l:=l) hp
 simpa [uD] using this
theorem Aj {s:Int} {l:List aN} (hr:ff l) {a:Nat} (h:a<l.length) (hp:gF s l≤a):s≤l[a].session:=by
 have hpl:gF s l<l.length:=by omega
 have h1:uD s l[gF s l]=false:=CS (p:=uD s) (l:=l) hpl
 have h2:s≤l[gF s l].session:=by simpa [uD] using h1
 rcases Nat.eq_or_lt_of_le hp with e | e
 ·subst e; exact h2
 ·have := hr.lt hpl h e
  omega
end Go.Proofs.YtgnkkopjkgdieaaGreat

end
section
set_option linter.unusedVariables false
set_option linter.unusedSimpArgs false
set_option maxRecDepth 100000
namespace Go.Proofs.YtgnkkopjkgdieaaGreat
open Go Go.V
theorem vX {S R:Type} (x:S) (f:S→Option R):iJ (some (Sum.inl x)) f=f x:=rfl
def fC (s:Int) (l:List aN):Option aN:=bif pW s l then l[gF s l]? else none
theorem pq {s:Int} {l:List aN} (h:pW s l=true):∃ hk:gF s l<l.length,l[gF s l].session=s∧fC s l=some l[gF s l]:=by
 unfold fC
 rw [h,cond_true]
 unfold pW at h
 cases e:l[gF s l]? with
 | none=>rw [e] at h; cases h
 | some x =>
  rw [e] at h
  obtain ⟨hk,hx⟩:=List.getElem?_eq_some_iff.1 e
  exact ⟨hk,by rw [hx]; exact eq_of_beq h,by rw [hx]⟩
theorem jB {s:Int} {l:List aN} (hr:ff l) {x:aN}:fC s l=some x↔x∈l∧x.session=s:=by
 constructor
 ·intro h
  cases hh:pW s l with
  | false=>simp [fC,hh] at h
  | true =>
   obtain ⟨hk,h1,h2⟩:=pq hh
   rw [h2] at h
   cases h
   exact ⟨List.getElem_mem hk,h1⟩
 ·rintro ⟨hx,hs⟩
  obtain ⟨a,ha,rfl⟩:=List.mem_iff_getElem.1 hx
  have h1:gF s l≤a:=by
   rcases Nat.lt_or_ge a (gF s l) with h | h
   ·have := Ap ha h; omega
   ·exact h
  have hk:gF s l<l.length:=by omega
  have h2:a=gF s l:=by
   rcases Nat.eq_or_lt_of_le h1 with h | h
   ·exact h.symm
   ·have h3:=hr.lt hk ha h
    have h4:=Aj hr hk (Nat.le_refl (gF s l))
    omega
  subst h2
  have hh:pW s l=true:=by
   unfold pW
   rw [List.getElem?_eq_getElem hk]
   simpa using hs
  unfold fC
  rw [hh,cond_true,List.getElem?_eq_getElem hk]
theorem pZ {s:Int} {l:List aN} (hr:ff l):fC s l=none↔∀ x∈l,x.session≠s:=by
 constructor
 ·intro h x hx hs
  rw [(jB hr).2 ⟨hx,hs⟩] at h; cases h
 ·intro h
  cases e:fC s l with
  | none=>rfl
  | some x=>exact absurd ((jB hr).1 e).2 (h x ((jB hr).1 e).1)
def nH (s q:Int) (r:bp):aN:={session:=s,seq:=q,r:=r}
def qy (s:Int) (l:List aN):Nat:=bif pW s l then gF s l+1 else gF s l
def mm (l:List aN) (x:aN):List aN:=l.take (gF x.session l)++x::l.drop (qy x.session l)
theorem xp {s:Int} {l:List aN}:∀ x∈l.take (gF s l),x.session<s:=by
 intro x hx
 obtain ⟨a,ha,rfl⟩:=List.mem_iff_getElem.1 hx
 rw [List.getElem_take]
 rw [List.length_take] at ha
 exact Ap (by omega) (by omega)
theorem uj {s:Int} {l:List aN} (hr:ff l):∀ x∈l.drop (qy s l),s<x.session:=by
 intro x hx
 obtain ⟨a,ha,rfl⟩:=List.mem_iff_getElem.1 hx
 rw [List.length_drop] at ha
 rw [List.getElem_drop]
 have hlt:qy s l+a<l.length:=by omega
 cases hh:pW s l with
 | true =>
  obtain ⟨hk,h1,h2⟩:=pq hh
  have e:qy s l=gF s l+1:=by simp [qy,hh]
  have := hr.lt hk hlt (by omega)
  omega
 | false =>
  have e:qy s l=gF s l:=by simp [qy,hh]
  have h1:=Aj (s:=s) hr hlt (by omega)
  have h2:l[qy s l+a].session≠s:=fun h=>by
   have : fC s l=none:=by simp [fC,hh]
   exact (pZ hr).1 this _ (List.getElem_mem hlt) h
  omega
theorem oH {l:List aN} (hr:ff l) (x:aN):ff (mm l x):=by
 have h1:ff (l.take (gF x.session l)):=List.Pairwise.sublist (List.take_sublist _ _) hr
 have h2:ff (l.drop (qy x.session l)):=List.Pairwise.sublist (List.drop_sublist _ _) hr
 refine List.pairwise_append.2 ⟨h1,List.pairwise_cons.2 ⟨uj hr,h2⟩,fun a ha b hb=>?_⟩
 have h3:=xp a ha
 rcases List.mem_cons.1 hb with rfl | hb
 ·exact h3
 ·have := uj hr b hb; omega
theorem wx {s:Int} {l:List aN} (hr:ff l):l.filter (fun x=>x.session !=s)=l.take (gF s l)++l.drop (qy s l):=by
 have h1:(l.take (gF s l)).filter (fun x=>x.session !=s)=l.take (gF s l):=List.filter_eq_self.2 fun x hx=>by have:=xp x hx; simp; omega
 have h2:(l.drop (qy s l)).filter (fun x=>x.session !=s)=l.drop (qy s l):=List.filter_eq_self.2 fun x hx=>by have:=uj hr x hx; simp; omega
 cases hh:pW s l with
 | false =>
  have e:qy s l=gF s l:=by simp [qy,hh]
  rw [e] at h2 ⊢
  conv => lhs; rw [← List.take_append_drop (gF s l) l]
  rw [List.filter_append,h1,h2]
 | true =>
  obtain ⟨hk,h3,h4⟩:=pq hh
  have e:qy s l=gF s l+1:=by simp [qy,hh]
  rw [e] at h2 ⊢
  conv => lhs; rw [← List.take_append_drop (gF s l) l]
  rw [List.filter_append,h1,List.drop_eq_getElem_cons hk,List.filter_cons,h2]
  simp [h3]
theorem pT {l:List aN} (hr:ff l) (x:aN):(mm l x).Perm (x::l.filter (fun y=>y.session !=x.session)):=by
 rw [wx hr]
 exact List.perm_middle
theorem vd {l:List aN} (hr:ff l) (x:aN):(mm l x).length≤l.length+1:=by
 rw [(pT hr x).length_eq,List.length_cons]
 have := List.length_filter_le (fun y:aN=>y.session !=x.session) l
 omega
def dD (s:Int) (l:List aN):Int:=match fC s l with | some x=>x.seq | none=>0
theorem CO {l:List aN} (h:ff l) (hn:l.length≤999999) (s q:Int) (r:bp) (hq:0≤q):fi (some {l:=l}) s q r =
  some (if q=0 then (1,some {l:=l}) else if dD s l≥q then (10,some {l:=l}) else (0,some {l:=mm l (nH s q r)})):=by
 unfold fi
 dsimp only
 by_cases h0:q=0
 ·subst h0; rfl
 have e0:(q==(0:Int))=false:=by simpa using h0
 rw [e0,cond_false,um h (by omega),Option.bind_some,if_neg h0]
 dsimp only
 cases hh:pW s l with
 | true =>
  obtain ⟨hk,h3,h4⟩:=pq hh
  have e1:dD s l=l[gF s l].seq:=by simp [dD,h4]
  simp only [cond_true,bl hk,Option.bind_some,e1]
  by_cases h5:l[gF s l].seq≥q
  ·rw [if_pos h5,decide_eq_true h5]; rfl
  ·rw [if_neg h5,decide_eq_false h5,cond_false,vX]
   simp only [hK,Bool.not_true,cond_false,Option.bind_some,hY,bl hk,Int.toNat_natCast,List.set_set]
   have e2:qy s l=gF s l+1:=by simp [qy,hh]
   have : l.set (gF s l) (nH s q r)=mm l (nH s q r):=by
    unfold mm
    rw [show (nH s q r).session=s from rfl,e2,List.set_eq_take_append_cons_drop,if_pos hk]
   rw [h3,← this]; rfl
 | false =>
  have e1:dD s l=0:=by simp [dD,fC,hh]
  have h5:¬ (0:Int)≥q:=by omega
  rw [e1,if_neg h5,cond_false,vX]
  have hle:=Dy s l
  have hok:oW l ((gF s l:Nat):Int) [({session:=s,seq:=(0:Int),r:=bI}:aN)]=true:=by
   simp only [oW,room,List.length_cons,List.length_nil]
   simp; omega
  have e2:qy s l=gF s l:=by simp [qy,hh]
  have hlt:(l.take (gF s l)).length=gF s l:=by rw [List.length_take]; omega
  simp only [hK,Bool.not_false,cond_true,dS,db hok,Option.bind_some,hY,ins,Int.toNat_natCast,List.set_set]
  have hg:da (l.take (gF s l)++([({session:=s,seq:=(0:Int),r:=bI}:aN)]++l.drop (gF s l))) ((gF s l:Nat):Int)=some ({session:=s,seq:=(0:Int),r:=bI}:aN):=by
   rw [rT,List.getElem?_append_right (by omega),hlt,Nat.sub_self]; rfl
  rw [hg,Option.bind_some]
  have : (l.take (gF s l)++([({session:=s,seq:=(0:Int),r:=bI}:aN)]++l.drop (gF s l))).set (gF s l) (nH s q r)=mm l (nH s q r):=by
   unfold mm
   rw [show (nH s q r).session=s from rfl,e2,List.set_append_right _ _ (by omega),hlt,Nat.sub_self]; rfl
  rw [← this]; rfl
theorem Co {l:List aN} (h:ff l) (hn:l.length≤1000000) (s q:Int):fZ (some {l:=l}) s q =
  some (match fC s l with | none=>(bI,2) | some x=>if x.seq<q then (bI,2) else if x.seq>q then (bI,10) else (x.r,0)):=by
 unfold fZ
 dsimp only
 rw [um h hn,Option.bind_some]
 dsimp only
 cases hh:pW s l with
 | false=>simp [fC,hh]
 | true =>
  obtain ⟨hk,h3,h4⟩:=pq hh
  simp only [h4,Bool.not_true,cond_false,bl hk,Option.bind_some]
  by_cases h5:l[gF s l].seq<q
  ·simp [h5]
  ·by_cases h6:l[gF s l].seq>q
   ·simp [h5,h6]
   ·simp [h5,h6]
theorem xe {l:List aN} (h:ff l) (hn:l.length≤1000000) (s:Int):en (some {l:=l}) s=some (dD s l):=by
 unfold en
 dsimp only
 rw [um h hn,Option.bind_some]
 dsimp only
 cases hh:pW s l with
 | false=>simp [dD,fC,hh]
 | true =>
  obtain ⟨hk,h3,h4⟩:=pq hh
  simp only [dD,h4,Bool.not_true,cond_false,bl hk,Option.bind_some]
theorem zr:ff []:=List.Pairwise.nil
theorem zj {l:List aN} (h:ff l) (x:aN) (s:Int):fC s (mm l x)=if s=x.session then some x else fC s l:=by
 have hm:∀ y,y∈mm l x↔y=x∨(y∈l∧y.session≠x.session):=fun y=>by
  rw [(pT h x).mem_iff,List.mem_cons,List.mem_filter]
  simp
 split
 ·rename_i e
  subst e
  exact (jB (oH h x)).2 ⟨(hm x).2 (.inl rfl),rfl⟩
 ·rename_i hne
  cases e:fC s l with
  | none =>
   refine (pZ (oH h x)).2 fun y hy=>?_
   rcases (hm y).1 hy with rfl | ⟨h1,_⟩
   ·exact fun e=>hne e.symm
   ·exact (pZ h).1 e y h1
  | some y =>
   obtain ⟨h1,h2⟩:=(jB h).1 e
   exact (jB (oH h x)).2 ⟨(hm y).2 (.inr ⟨h1,by rw [h2]; exact hne⟩),h2⟩
end Go.Proofs.YtgnkkopjkgdieaaGreat

end
section
set_option linter.unusedVariables false
set_option linter.unusedSimpArgs false
set_option maxRecDepth 100000
namespace Go.Proofs.YtgnkkopjkgdieaaGreat
open Go Go.V
def okR (x:bp):Prop:=x.Gots.length≤9223372036854775807∧x.Scans.length≤9223372036854775807∧∀ l∈x.Scans,l.length≤9223372036854775807∧∀ p∈l,isF p.At
theorem uE {α:Type} {body:Int→Option (Int ⊕ Bool)} (a:List α) (hn:a.length≤9223372036854775807) (h1:∀ (i:Nat) (hi:i<a.length),body (i:Int)=some (.inl (IntKind.i64.wrap ((i:Int)+(1:Int))))) (h2:body (a.length:Int)=some (.inr true)):br body (0:Int)=some true:=by
 refine dz (fun i:Nat=>(i:Int)) a.length true (fun i hi=>?_) h2
 rw [h1 i hi]
 have : IntKind.i64.wrap ((i:Int)+(1:Int))=((i+1:Nat):Int):=by rw [wrap_i64] <;> push_cast <;> omega
 rw [this]
theorem wQ (a:List cp) (hn:a.length≤9223372036854775807):fN a a=some true:=by
 unfold fN
 have e0:(((a.length:Nat):Int) !=((a.length:Nat):Int))=false:=by simp
 rw [e0,cond_false]
 refine uE a hn (fun i hi=>?_) ?_
 ·have e1:decide ((i:Int)<(a.length:Int))=true:=by simpa using hi
  have e2:(a[i].Has==a[i].Has)=true:=by simp
  simp only [fh,e1,cond_true,bl hi,Option.bind_some,e2,oc,Bool.not_true,cond_false]
 ·simp [fh,bt]
theorem DI {a:Nat} (ha:isF a):eG a a=some true:=by rw [tR ha ha,yV rfl]
theorem zS (a:List bM) (hn:a.length≤9223372036854775807) (hf:∀ p∈a,isF p.At):gB a a=some true:=by
 unfold gB
 have e0:(((a.length:Nat):Int) !=((a.length:Nat):Int))=false:=by simp
 rw [e0,cond_false]
 refine uE a hn (fun i hi=>?_) ?_
 ·have e1:decide ((i:Int)<(a.length:Int))=true:=by simpa using hi
  simp only [fw,e1,cond_true,bl hi,Option.bind_some,DI (hf _ (List.getElem_mem hi)),oc,Bool.not_true,cond_false]
 ·simp [fw,bt]
theorem tA {a:bp} (h:okR a):eV a a=some true:=by
 obtain ⟨h1,h2,h3⟩:=h
 unfold eV
 have e0:∀ x:Int,(x !=x)=false:=fun x=>by simp
 rw [e0,e0,e0,e0,cond_false,cond_false,cond_false,cond_false,wQ _ h1,Option.bind_some,Bool.not_true,cond_false]
 refine uE a.Scans h2 (fun i hi=>?_) ?_
 ·have e1:decide ((i:Int)<(a.Scans.length:Int))=true:=by simpa using hi
  have g:=h3 _ (List.getElem_mem hi)
  simp only [fA,e1,cond_true,bl hi,Option.bind_some,zS _ g.1 g.2,Bool.not_true,cond_false]
 ·simp [fA,bt]
theorem Ff {x:bp} (g:wh x):okR x:=by
 obtain ⟨_,_,_,g4,g5,g6,g7⟩:=g
 exact ⟨by omega,by omega,fun l hl=>⟨by have:=(g5 l hl).1; omega,fun p hp=>((g5 l hl).2 p hp).1⟩⟩
def an (x:aN):cq:={Session:=x.session,Seq:=x.seq,R:=x.r}
def Rel (l:List aN) (m:List cq):Prop:=(l.map an).Perm m
def dfl (s:Int):cq:={Session:=s,Seq:=0,R:=bI}
theorem De (m:List cq) (hn:m.length≤1000000) (s:Int):iC m s=some ((m.find? fun a=>a.Session==s).getD (dfl s)):=by
 have key:∀ (k i:Nat),m.length - i≤k→i≤m.length→br (jR m s) (i:Int)=some (((m.drop i).find? fun a=>a.Session==s).getD (dfl s)):=by
  intro k
  induction k with
  | zero =>
   intro i hk hi
   have e:i=m.length:=by omega
   subst e
   rw [eA]
   simp [jR,bt,dfl]
  | succ k ih =>
   intro i hk hi
   by_cases hlt:i<m.length
   ·have e1:decide ((i:Int)<(m.length:Int))=true:=by simpa using hlt
    rw [eA,List.drop_eq_getElem_cons hlt]
    simp only [jR,e1,cond_true,bl hlt,Option.bind_some,List.find?_cons]
    cases hb:(m[i].Session==s) with
    | true=>simp [bt]
    | false =>
     have e2:IntKind.i64.wrap ((i:Int)+(1:Int))=((i+1:Nat):Int):=wrap_add (a:=i) (b:=1) (by omega)
     simp only [cond_false,Option.bind_some,e2]
     exact ih (i+1) (by omega) (by omega)
   ·have e:i=m.length:=by omega
    subst e
    rw [eA]
    simp [jR,bt,dfl]
 have := key m.length 0 (by omega) (by omega)
 rw [List.drop_zero] at this
 exact this
theorem Cj {l:List aN} {m:List cq} (hr:ff l) (h:Rel l m) (s:Int):(m.find? fun a=>a.Session==s)=(fC s l).map an:=by
 cases e:fC s l with
 | none =>
  rw [Option.map_none,List.find?_eq_none]
  intro a ha
  obtain ⟨x,hx,rfl⟩:=List.mem_map.1 (h.mem_iff.2 ha)
  have := (pZ hr).1 e x hx
  simpa [an] using this
 | some x =>
  obtain ⟨h1,h2⟩:=(jB hr).1 e
  have hx:an x∈m:=h.mem_iff.1 (List.mem_map_of_mem h1)
  cases e2:m.find? fun a=>a.Session==s with
  | none =>
   have := List.find?_eq_none.1 e2 _ hx
   simp [an,h2] at this
  | some a =>
   have ha:=List.mem_of_find?_eq_some e2
   have hs:a.Session=s:=by have:=List.find?_some e2; simpa using this
   obtain ⟨y,hy,rfl⟩:=List.mem_map.1 (h.mem_iff.2 ha)
   have h3:fC s l=some y:=(jB hr).2 ⟨hy,hs⟩
   rw [e] at h3
   cases h3; rfl
theorem vM {l:List aN} {m:List cq} (hr:ff l) (h:Rel l m) (hn:l.length≤1000000) (s:Int):iC m s=some (match fC s l with | some x=>an x | none=>dfl s):=by
 rw [De m (by rw [← h.length_eq,List.length_map]; exact hn) s,Cj hr h]
 cases fC s l <;> rfl
theorem Bt (m:List cq) (hn:m.length≤1000000) (s:Int) (x:cq):br (iL m s) ([x],(0:Int))=some (x::m.filter (fun a=>a.Session !=s),(0:Int)):=by
 have key:∀ (k i:Nat) (acc:List cq),m.length - i≤k→i≤m.length→acc.length≤i+1→br (iL m s) (acc,(i:Int))=some (acc++(m.drop i).filter (fun a=>a.Session !=s),(0:Int)):=by
  intro k
  induction k with
  | zero =>
   intro i acc hk hi ha
   have e:i=m.length:=by omega
   subst e
   rw [eA]
   simp [iL,bt]
  | succ k ih =>
   intro i acc hk hi ha
   by_cases hlt:i<m.length
   ·have e1:decide ((i:Int)<(m.length:Int))=true:=by simpa using hlt
    have e2:IntKind.i64.wrap ((i:Int)+(1:Int))=((i+1:Nat):Int):=wrap_add (a:=i) (b:=1) (by omega)
    have e3:room acc [m[i]]=true:=jH (by simp only [List.length_cons,List.length_nil]; omega)
    rw [eA,List.drop_eq_getElem_cons hlt]
    simp only [iL,e1,cond_true,bl hlt,Option.bind_some,List.filter_cons,e2]
    cases hb:(m[i].Session !=s) with
    | true =>
     simp only [cond_true,db e3,Option.bind_some,if_true]
     rw [ih (i+1) (acc++[m[i]]) (by omega) (by omega) (by simp only [List.length_append,List.length_cons,List.length_nil]; omega)]
     simp
    | false =>
     simp only [cond_false,Option.bind_some,Bool.false_eq_true,if_false]
     exact ih (i+1) acc (by omega) (by omega) (by omega)
   ·have e:i=m.length:=by omega
    subst e
    rw [eA]
    simp [iL,bt]
 simpa using key m.length 0 [x] (by omega) (by omega) (by simp)
theorem DQ {l:List aN} {m:List cq} (hr:ff l) (h:Rel l m) (hn:l.length≤999999) (s q:Int) (r:bp):ng m s q r =
  some (if q=0 then (m,1) else if dD s l≥q then (m,10) else (an (nH s q r)::m.filter (fun a=>a.Session !=s),0)):=by
 unfold ng
 by_cases h0:q=0
 ·subst h0; rfl
 have e0:(q==(0:Int))=false:=by simpa using h0
 have e1:(match fC s l with | some x=>an x | none=>dfl s).Seq=dD s l:=by unfold dD; cases fC s l <;> rfl
 rw [e0,cond_false,vM hr h (by omega),Option.bind_some,e1,if_neg h0]
 by_cases h5:dD s l≥q
 ·rw [if_pos h5,decide_eq_true h5,cond_true]
 ·rw [if_neg h5,decide_eq_false h5,cond_false]
  exact Bt m (by rw [← h.length_eq,List.length_map]; omega) s _
theorem xb {l:List aN} {m:List cq} (hr:ff l) (h:Rel l m) (x:aN):Rel (mm l x) (an x::m.filter (fun a=>a.Session !=x.session)):=by
 unfold Rel
 refine ((pT hr x).map an).trans ?_
 rw [List.map_cons]
 refine List.Perm.cons _ ?_
 have h2:=h.filter (fun a=>a.Session !=x.session)
 rw [List.filter_map] at h2
 exact h2
def CD (l:List aN):Prop:=∀ x∈l,okR x.r∧0<x.seq
theorem yk {l:List aN} (hr:ff l) (h:CD l) {x:aN} (hx:okR x.r∧0<x.seq):CD (mm l x):=by
 intro y hy
 have := (pT hr x).mem_iff.1 hy
 rcases List.mem_cons.1 this with rfl | h2
 ·exact hx
 ·exact h y (List.mem_filter.1 h2).1
end Go.Proofs.YtgnkkopjkgdieaaGreat

end
section
set_option linter.unusedVariables false
set_option linter.unusedSimpArgs false
set_option maxRecDepth 100000
namespace Go.Proofs.YtgnkkopjkgdieaaGreat
open Go Go.V
def nm (id:Int) (x:df):Bool:=x.r.ID==id&&x.to_==0
def fX (id e:Int) (x:df):df:=bif nm id x then {x with to_:=if (1:Int)>e then 1 else e} else x
theorem Bv {α:Type} (f:α→α) (l:List α) (i:Nat) (h:i<l.length):((l.take i).map f++l.drop i).set i (f l[i])=(l.take (i+1)).map f++l.drop (i+1):=by
 rw [List.set_append_right _ _ (by simp; omega)]
 have e:i - ((l.take i).map f).length=0:=by simp; omega
 rw [e,List.drop_eq_getElem_cons h,List.set_cons_zero,List.take_succ_eq_append_getElem h,List.map_append,List.append_assoc]
 rfl
theorem Bz {α:Type} (f:α→α) (l:List α) (i:Nat) (h:i<l.length):((l.take i).map f++l.drop i)[i]?=some l[i]:=by
 rw [List.getElem?_append_right (by simp; omega)]
 have e:i - ((l.take i).map f).length=0:=by simp; omega
 rw [e,List.getElem?_drop,Nat.add_zero,List.getElem?_eq_getElem h]
theorem zl {α:Type} (f:α→α) (l:List α) (i:Nat) (h:i<l.length) (hf:f l[i]=l[i]):(l.take i).map f++l.drop i=(l.take (i+1)).map f++l.drop (i+1):=by
 rw [List.drop_eq_getElem_cons h,List.take_succ_eq_append_getElem h,List.map_append,List.append_assoc]
 simp only [List.map_cons,List.map_nil,hf]
 rfl
theorem vh {α:Type} (p:α→Bool) (l:List α) (i:Nat) (h:i<l.length):(l.take (i+1)).any p=((l.take i).any p||p l[i]):=by
 rw [List.take_succ_eq_append_getElem h,List.any_append]
 simp
theorem uH (b:cB) (id e:Int) (hl:b.l.length≤1000000):eS (some b) id e=some (b.l.any (nm id),some {l:=b.l.map (fX id e)}):=by
 unfold eS
 have h:=dz (body:=fl b id e) (fun i=>({l:=(b.l.take i).map (fX id e)++b.l.drop i},(i:Int),(b.l.take i).any (nm id))) b.l.length (b.l.any (nm id),some {l:=b.l.map (fX id e)}) ?_ ?_
 ·simpa using h
 ·intro i hi
  have e1:decide ((i:Int)<(b.l.length:Int))=true:=by simpa using hi
  have e2:IntKind.i64.wrap ((i:Int)+1)=((i+1:Nat):Int):=by rw [wrap_i64] <;> omega
  simp only [fl,e1,cond_true,rT,Bz _ _ _ hi,Option.bind_some,e2,vh _ _ _ hi]
  cases hh:nm id b.l[i] with
  | true =>
   have hr:fX id e b.l[i]={r:=b.l[i].r,from_:=b.l[i].from_,to_:=if (1:Int)>e then 1 else e}:=by simp [fX,hh]
   simp only [nm,Bool.and_eq_true] at hh
   rw [hh.1,hh.2,Bool.or_true,← hr,Int.toNat_natCast,Bv _ _ _ hi]
   rfl
  | false =>
   have hr:fX id e b.l[i]=b.l[i]:=by simp [fX,hh]
   rw [Bool.or_false,← zl _ _ _ hi hr]
   simp only [nm] at hh
   cases h1:(b.l[i].r.ID==id) with
   | false=>rfl
   | true =>
    rw [h1,Bool.true_and] at hh
    rw [hh]; rfl
 ·have e1:decide ((b.l.length:Int)<(b.l.length:Int))=false:=by simp
  simp only [fl,e1,cond_false,bt,Option.map_some,List.take_length,List.drop_length,List.append_nil]
theorem zg (b:cB) (r:dr) (e:Int) (hl:b.l.length≤1000000):fW (some b) r e=some (some {l:=b.l.map (fX r.ID e)++[{r:=r,from_:=e,to_:=0}]}):=by
 simp only [fW,uH b r.ID e hl,Option.bind_some]
 rw [db (jH (by simp; omega))]
def ns (id e:Int) (x:df):Bool:=x.r.ID==id&&(decide (x.from_≤e)&&(x.to_==0||decide (x.to_>e)))
def Da:dr:={ID:=0,From:=0,To:=0,Lo:=0,Hi:=0,Authority:=0,Quota:=0}
def tI:Option df→dr×Bool
 | some x=>(x.r,true)
 | none=>(Da,false)
def kU (p:df→Bool) (l:List df):Option df:=l.reverse.find? p
theorem AZ (b:cB) (id e:Int) (i:Nat) (h:i<b.l.length) (hl:b.l.length≤1000000):gf b id e (i:Int)=bif ns id e b.l[i] then some (.inr (b.l[i].r,true)) else some (.inl ((i:Int) - 1)):=by
 have e1:decide ((i:Int)≥0)=true:=by simp
 have e2:IntKind.i64.wrap ((i:Int) - 1)=(i:Int) - 1:=by rw [wrap_i64] <;> omega
 simp only [gf,e1,cond_true,bl h,Option.bind_some,e2,bt,Option.map_some,ns]
 cases (b.l[i].r.ID==id) <;> cases decide (b.l[i].from_≤e) <;> cases (b.l[i].to_==0) <;> cases decide (b.l[i].to_>e) <;> rfl
theorem Bk (b:cB) (id e:Int) (hl:b.l.length≤1000000):∀ n,n≤b.l.length→br (gf b id e) ((n:Int) - 1)=some (tI (kU (ns id e) (b.l.take n))):=by
 intro n
 induction n with
 | zero =>
  intro _
  rw [eA]
  rfl
 | succ n ih =>
  intro hn
  have e0:((n+1:Nat):Int) - 1=(n:Int):=by omega
  rw [eA,e0,AZ b id e n (by omega) hl,List.take_succ_eq_append_getElem (by omega)]
  simp only [kU,List.reverse_append,List.reverse_cons,List.reverse_nil,List.nil_append,List.singleton_append,List.find?_cons]
  cases ns id e b.l[n] with
  | true=>rfl
  | false=>exact ih (by omega)
theorem Dw (b:cB) (id e:Int) (hl:b.l.length≤1000000):lU (some b) id e=some (tI (kU (ns id e) b.l)):=by
 have e2:IntKind.i64.wrap ((b.l.length:Int) - 1)=(b.l.length:Int) - 1:=by rw [wrap_i64] <;> omega
 show br (gf b id e) (IntKind.i64.wrap ((b.l.length:Int) - 1))=_
 rw [e2]
 have := Bk b id e hl b.l.length (Nat.le_refl _)
 rwa [List.take_length] at this
theorem wC (p:df→Bool) (l:List df) (x:df):kU p (l++[x])=if p x then some x else kU p l:=by
 simp [kU,List.find?_cons]
 cases p x <;> rfl
def rD (r:dr):Prop:=r.Lo<18446744073709551616∧r.Hi<18446744073709551616
end Go.Proofs.YtgnkkopjkgdieaaGreat

end
