/- A part of the proof. -/
import Derived.Test.YtgnkkopjkgdieaaGreatLaneBytesGw
import Derived.Test.YtgnkkopjkgdieaaGreatLaneBytesM
import Derived.Test.YtgnkkopjkgdieaaGreatLaneBytesP1
set_option linter.unusedVariables false
set_option linter.unusedSimpArgs false
set_option maxRecDepth 100000
namespace Go.Proofs.YtgnkkopjkgdieaaGreat
open Go Go.V
theorem Kd {A:List Nat} {k:Nat} {x:Nat} (hk:k≤A.length):lL A (0:Int) (k:Int)++[x]++lL A (k:Int) (((A.length:Nat):Int))=A.take k++x::A.drop k:=by
 unfold lL
 rw [Int.toNat_natCast,Int.toNat_natCast,List.take_length,show (0:Int).toNat=0 from rfl,List.drop_zero,List.append_assoc]
 rfl
theorem DB {α:Type} {A:List α} {i j:Nat} (h1:i≤j) (h2:j≤A.length):fits A (i:Int) (j:Int)=true:=by
 unfold fits
 simp
 omega
theorem Nc {A:List Nat} {m:List aP} {i:Nat} (hi:i<m.length) (hA:∀ a∈A,isF a) (hx:isF m[i].At) (hr:iC aO A) (hn:A.length≤1000000):bA (nv A m (i:Int)) (0:Int)=some ((pl aO (aO m[i].At) A:Nat):Int):=by
 have hle:=zf aO (aO m[i].At) A
 refine dW (fun j=>(j:Int)) (pl aO (aO m[i].At) A) _ (fun j hj=>?_) ?_
 ·have hjA:j<A.length:=by omega
  have h1:aO A[j]<aO m[i].At:=Gz hjA hj
  simp only [nv,gf hjA,cond_true,bD hjA,bD hi,Option.bind_some,sO (hA _ (List.getElem_mem hjA)) hx,h1,decide_true,cm (show j≤4294967295 by omega)]
 ·by_cases hk:pl aO (aO m[i].At) A<A.length
  ·have h1:=FQ (s:=aO m[i].At) hr hk (Nat.le_refl _)
   have h2:¬ aO A[pl aO (aO m[i].At) A]<aO m[i].At:=by omega
   simp only [nv,gf hk,cond_true,bD hk,bD hi,Option.bind_some,sO (hA _ (List.getElem_mem hk)) hx,h2,decide_false,cond_false,bG,Option.map_some]
  ·have e:decide (((pl aO (aO m[i].At) A:Nat):Int)<((A.length:Nat):Int))=false:=by simp; omega
   simp only [nv,e,cond_false,bG,Option.map_some]
def BF (A:List Nat) (x:Nat):List Nat:=bif hit aO (aO x) A then A else mZ aO A x
theorem MY {A:List Nat} {m:List aP} {i:Nat} (hi:i<m.length) (hA:∀ a∈A,isF a) (hx:isF m[i].At) (hn:A.length≤1000000) (hi2:i≤1000000) :
  nD A m (i:Int) ((pl aO (aO m[i].At) A:Nat):Int)=some (Sum.inl (BF A m[i].At,((i+1:Nat):Int))):=by
 have hle:=zf aO (aO m[i].At) A
 have hins:(gd (fits A (0:Int) ((pl aO (aO m[i].At) A:Nat):Int)) (gd (room ([]:List Nat) (lL A (0:Int) ((pl aO (aO m[i].At) A:Nat):Int))) (gd (room (lL A (0:Int) ((pl aO (aO m[i].At) A:Nat):Int)) ([m[i].At])) (gd (fits A ((pl aO (aO m[i].At) A:Nat):Int) (((A).length:Nat):Int)) (gd (room ((lL A (0:Int) ((pl aO (aO m[i].At) A:Nat):Int))++([m[i].At])) (lL A ((pl aO (aO m[i].At) A:Nat):Int) (((A).length:Nat):Int))) (some (Sum.inl ((((lL A (0:Int) ((pl aO (aO m[i].At) A:Nat):Int))++([m[i].At]))++(lL A ((pl aO (aO m[i].At) A:Nat):Int) (((A).length:Nat):Int))),((i+1:Nat):Int)))))))):Option ((List Nat×Int) ⊕ List Nat))=some (Sum.inl (A.take (pl aO (aO m[i].At) A)++m[i].At::A.drop (pl aO (aO m[i].At) A),((i+1:Nat):Int))):=by
  have l1:(lL A (0:Int) ((pl aO (aO m[i].At) A:Nat):Int)).length≤1000000:=by unfold lL; simp only [List.length_drop,List.length_take]; omega
  have l2:(lL A ((pl aO (aO m[i].At) A:Nat):Int) ((A.length:Nat):Int)).length≤1000000:=by unfold lL; simp only [List.length_drop,List.length_take]; omega
  rw [dm (show fits A (0:Int) _=true from DB (i:=0) (Nat.zero_le _) hle),dm (room_le (by simp only [List.length_nil]; omega)),dm (room_le (by simp only [List.length_singleton]; omega)),dm (DB hle (Nat.le_refl _)),dm (room_le (by simp only [List.length_append,List.length_singleton]; omega)),Kd hle]
 unfold BF mZ pr
 cases hh:hit aO (aO m[i].At) A with
 | true =>
  obtain ⟨hk,h1,h2⟩:=ml hh
  simp only [nD,gf hk,cond_true,bD hk,bD hi,Option.bind_some,rn (hA _ (List.getElem_mem hk)) hx,h1,decide_true,cm (show i≤4294967295 by omega)]
 | false =>
  simp only [cond_false]
  by_cases hk:pl aO (aO m[i].At) A<A.length
  ·have h1:¬ aO A[pl aO (aO m[i].At) A]=aO m[i].At:=fun e=>by
    have : hit aO (aO m[i].At) A=true:=by unfold hit; rw [List.getElem?_eq_getElem hk]; simpa using e
    rw [this] at hh; cases hh
   simp only [nD,gf hk,cond_true,bD hk,bD hi,Option.bind_some,rn (hA _ (List.getElem_mem hk)) hx,h1,decide_false,cond_false,cm (show i≤4294967295 by omega)]
   exact hins
  ·have e:decide (((pl aO (aO m[i].At) A:Nat):Int)<((A.length:Nat):Int))=false:=by simp; omega
   simp only [nD,e,cond_false,bD hi,Option.bind_some,cm (show i≤4294967295 by omega)]
   exact hins
theorem Hq {A:List Nat} (h:iC aO A) (x:Nat):iC aO (BF A x):=by
 unfold BF; cases hit aO (aO x) A with
 | true=>exact h
 | false=>exact tG h x
theorem Il {A:List Nat} (h:iC aO A) (x:Nat) (r:Int):(∃ a∈BF A x,aO a=r)↔(∃ a∈A,aO a=r)∨aO x=r:=by
 unfold BF
 cases hh:hit aO (aO x) A with
 | true =>
  obtain ⟨hk,h1,_⟩:=ml hh
  refine ⟨.inl,fun h=>h.elim id fun e=>⟨_,List.getElem_mem hk,h1.trans e⟩⟩
 | false =>
  simp only [cond_false]
  constructor
  ·rintro ⟨a,ha,e⟩
   rcases (lx h x a).1 ha with rfl | ⟨h1,_⟩
   ·exact .inr e
   ·exact .inl ⟨a,h1,e⟩
  ·rintro (⟨a,ha,e⟩ | e)
   ·by_cases h2:aO a=aO x
    ·exact ⟨x,(lx h x x).2 (.inl rfl),h2 ▸ e⟩
    ·exact ⟨a,(lx h x a).2 (.inr ⟨ha,h2⟩),e⟩
   ·exact ⟨x,(lx h x x).2 (.inl rfl),e⟩
theorem Mt {A:List Nat} (h:iC aO A) {x:Nat} (hA:∀ a∈A,isF a) (hx:isF x):∀ a∈BF A x,isF a:=by
 unfold BF
 cases hit aO (aO x) A with
 | true=>exact hA
 | false =>
  intro a ha
  rcases (lx h x a).1 ha with rfl | ⟨h1,_⟩
  ·exact hx
  ·exact hA a h1
theorem Jf {A:List Nat} (h:iC aO A) (x:Nat):(BF A x).length≤A.length+1:=by
 unfold BF
 cases hit aO (aO x) A with
 | true=>simp only [cond_true]; omega
 | false=>exact wL h x
structure Ats (m:List aP) (A:List Nat):Prop where
 rJ : iC aO A
 f : ∀ a∈A,isF a
 mem : ∀ r,(∃ a∈A,aO a=r)↔∃ y∈m,aO y.At=r
 len : A.length≤m.length
theorem LG {m:List aP} (hx:∀ y∈m,isF y.At) (hn:m.length≤1000000):∃ A,uV m=some A∧Ats m A:=by
 unfold uV
 refine qR (body:=pt m) (Inv:=fun s=>∃ i:Nat,s.2=(i:Int)∧i≤m.length∧Ats (m.take i) s.1) (m:=fun s=>(m.length - s.2).toNat) (Q:=fun A=>Ats m A) (fun s hs=>?_) ⟨0,rfl,Nat.zero_le _,⟨tO,fun a h=>(by cases h),fun r=>(by simp),by simp⟩⟩
 obtain ⟨A,z⟩:=s
 obtain ⟨i,rfl,hi,hA⟩:=hs
 dsimp only at hA
 have hAl:=hA.len
 rw [List.length_take] at hAl
 by_cases hil:i<m.length
 ·have hmi:=List.getElem_mem hil
  left
  simp only [pt,gf hil,cond_true,Nc hil hA.f (hx _ hmi) hA.rJ omA,Option.bind_some,MY hil hA.f (hx _ hmi) omA omA]
  refine ⟨_,rfl,⟨i+1,rfl,by omega,⟨Hq hA.rJ _,Mt hA.rJ hA.f (hx _ hmi),fun r=>?_,?_⟩⟩,by dsimp only; omega⟩
  ·rw [Il hA.rJ,hA.mem,List.take_succ_eq_append_getElem hil]
   simp only [List.mem_append,List.mem_singleton]
   constructor
   ·rintro (⟨y,hy,e⟩ | e)
    ·exact ⟨y,.inl hy,e⟩
    ·exact ⟨_,.inr rfl,e⟩
   ·rintro ⟨y,hy | rfl,e⟩
    ·exact .inl ⟨y,hy,e⟩
    ·exact .inr e
  ·have := Jf hA.rJ m[i].At
   dsimp only
   rw [List.length_take]; omega
 ·have e1:i=m.length:=by omega
  subst e1
  right
  rw [List.take_length] at hA
  exact ⟨A,by simp [pt,bG],hA⟩
theorem Ic {n:Nat} {l:List bW} {m:List aP} {A:List Nat} (h:Inv n l m) (hA:Ats m A):l.map rk=A.map aO:=by
 refine DJ (k:=id) (List.pairwise_map.2 h.rJ) (List.pairwise_map.2 hA.rJ) fun r=>?_
 rw [List.mem_map,List.mem_map]
 have : (∃ a∈A,aO a=r)↔∃ y∈m,aO y.At=r:=hA.mem r
 rw [this]
 constructor
 ·rintro ⟨x,hx,e⟩
  obtain ⟨v,hv⟩:=List.exists_mem_of_ne_nil _ (h.ne x hx)
  obtain ⟨y,hy,e2⟩:=List.mem_map.1 (h.pm.mem_iff.1 (wK.2 ⟨x,hx,rfl,hv⟩:(x.eW,v)∈ma l))
  exact ⟨y,hy,(congrArg Prod.fst e2).trans e⟩
 ·rintro ⟨y,hy,e⟩
  obtain ⟨x,hx,h1,_⟩:=wK.1 (h.pm.mem_iff.2 (List.mem_map.2 ⟨y,hy,rfl⟩))
  exact ⟨x,hx,h1.trans e⟩
theorem Ke:Inv 0 [] []:=⟨tO,fun x h=>(by cases h),fun x h=>(by cases h),List.Perm.refl _,fun x h=>(by cases h),fun x h=>(by cases h),by simp,by simp⟩
theorem Inv.up {n k:Nat} {l:List bW} {m:List aP} (h:Inv n l m) (hk:n≤k):Inv k l m:=⟨h.rJ,h.ne,h.vr,h.pm,h.xg,h.cl,h.nd,Nat.le_trans h.AT hk⟩
theorem Ct {q:Nat→Bool} {i n:Nat} (h:i≤n):∃ t,(List.range n).filter q=(List.range i).filter q++t∧((∀ j,i≤j→j<n→q j=false)→t=[]):=by
 obtain ⟨k,rfl⟩:=Nat.exists_eq_add_of_le h
 refine ⟨((List.range k).map (i + ·)).filter q,by rw [List.range_add,List.filter_append],fun hq=>List.filter_eq_nil_iff.2 fun j hj=>?_⟩
 obtain ⟨x,hx,rfl⟩:=List.mem_map.1 hj
 rw [hq (i+x) omA (by have:=List.mem_range.1 hx; omega)]
 simp
theorem BZ {β:Type} {body:List β×Int→Option ((List β×Int) ⊕ List β)} (n p M:Nat) (q:Nat→Bool) (f:Nat→β) (stp:Nat→Bool) (hp:p≤n) (hq0:∀ j,j<p→q j=false)
  (h1 : ∀ (i:Nat),i<n→p≤i→∀ out:List β,out.length≤i→body (out,(i:Int))=some (bif stp i then .inr out else bif decide (out.length<M) then .inl (bif q i then out++[f i] else out,((i+1:Nat):Int)) else .inr out))
  (hs : ∀ i,i<n→stp i=true→∀ j,i≤j→j<n→q j=false)
  (h2 : ∀ out:List β,body (out,(n:Int))=some (.inr out)):bA body ([],(p:Int))=some ((((List.range n).filter q).take M).map f):=by
 obtain ⟨r,h3,h4⟩:=qR (body:=body) (Inv:=fun s=>∃ i:Nat,s.2=(i:Int)∧i≤n∧p≤i∧s.1=(((List.range i).filter q).take M).map f) (m:=fun s=>(n - s.2).toNat) (Q:=fun r=>r=(((List.range n).filter q).take M).map f) (fun s hs'=>by
  obtain ⟨out,z⟩:=s
  obtain ⟨i,rfl,hi,hpi,ho⟩:=hs'
  dsimp only at ho
  subst ho
  have hlen:((((List.range i).filter q).take M).map f).length≤i:=by
   have := List.length_filter_le q (List.range i)
   rw [List.length_range] at this
   rw [List.length_map,List.length_take]; omega
  by_cases hin:i<n
  ·rw [h1 i hin hpi _ hlen]
   cases hst:stp i with
   | true =>
    right
    obtain ⟨t,ht,ht0⟩:=Ct (q:=q) hi
    exact ⟨_,rfl,by rw [ht,ht0 (hs i hin hst),List.append_nil]⟩
   | false =>
    by_cases hM:((((List.range i).filter q).take M).map f).length<M
    ·left
     rw [cond_false,decide_eq_true hM,cond_true]
     refine ⟨_,rfl,⟨i+1,rfl,by omega,by omega,?_⟩,by dsimp only; omega⟩
     have hl:((List.range i).filter q).length<M:=by
      rw [List.length_map,List.length_take] at hM; omega
     dsimp only
     rw [List.range_succ,List.filter_append,List.take_of_length_le (show ((List.range i).filter q).length≤M by omega)]
     cases hqi:q i with
     | true =>
      have e:[i].filter q=[i]:=by simp [hqi]
      rw [e,List.take_of_length_le (by rw [List.length_append,List.length_singleton]; omega),List.map_append]; rfl
     | false =>
      have e:[i].filter q=[]:=by simp [hqi]
      rw [e,List.append_nil,List.take_of_length_le omA]; rfl
    ·right
     rw [cond_false,decide_eq_false hM,cond_false]
     refine ⟨_,rfl,?_⟩
     obtain ⟨t,ht,_⟩:=Ct (q:=q) hi
     rw [ht,List.take_append_of_le_length]
     rw [List.length_map,List.length_take] at hM; omega
  ·have e:i=n:=by omega
   subst e
   exact .inr ⟨_,h2 _,rfl⟩) (s:=(([]:List β),(p:Int))) ⟨p,rfl,hp,Nat.le_refl _,by
    have : (List.range p).filter q=[]:=List.filter_eq_nil_iff.2 fun j hj=>by rw [hq0 j (List.mem_range.1 hj)]; simp
    rw [this]; simp⟩
 rw [h3,h4]
theorem IE {l:List bW} (hr:iC rk l) {x:bW} (hx:x∈l):qb l x.eW=x.l:=by
 unfold qb
 rw [show jK rk x.eW l=some x from (ng hr).2 ⟨hx,rfl⟩]
theorem FP {x:Nat} (hx:isF x):∃ f,eP (aO x)=some f∧isF f∧aO f=aO x:=by
 cases hn:ql x with
 | false=>exact ⟨x,BX hx hn,hx,rfl⟩
 | true =>
  have e:aO x=((18446744073709551615:Nat):Int):=by unfold aO; rw [hn]; rfl
  refine ⟨9223372036854775807,?_,by unfold isF; decide,?_⟩
  ·rw [e,back_eq deA]; rfl
  ·rw [e]; decide
theorem Ha {a lo hi:Nat} (ha:isF a) (h1:isF lo) (h2:isF hi):mq a lo hi=some (decide (aO lo≤aO a)&&decide (aO a≤aO hi)):=by
 unfold mq
 rw [sO ha h1,sO h2 ha]
 by_cases c1:aO a<aO lo
 ·have c2:¬ aO lo≤aO a:=by omega
  simp [c1,c2]
 ·have c2:aO lo≤aO a:=by omega
  by_cases c3:aO hi<aO a
  ·have c4:¬ aO a≤aO hi:=by omega
   simp [c1,c2,c3,c4]
  ·have c4:aO a≤aO hi:=by omega
   simp [c1,c2,c3,c4]
theorem EO {a b:List bP} (hl:a.length=b.length) (hn:a.length≤1000000) (h:∀ i (ha:i<a.length) (hb:i<b.length),isF a[i].At∧isF b[i].At∧aO a[i].At=aO b[i].At∧a[i].Val=b[i].Val):jm a b=some true:=by
 have e:(((a.length:Nat):Int) !=((b.length:Nat):Int))=false:=by simp [hl]
 unfold jm
 rw [e,cond_false]
 refine dW (fun i=>(i:Int)) a.length true (fun i hi=>?_) (by simp [ie,bG])
 have hb:i<b.length:=by omega
 obtain ⟨f1,f2,f3,f4⟩:=h i hi hb
 simp only [ie,gf hi,cond_true,bD hi,bD hb,Option.bind_some,rn f1 f2,f3,decide_true,Bool.not_true,cond_false,f4,sc,cm (show i≤4294967295 by omega)]
noncomputable def Df (m:List aP) (A:List Nat) (e:Int) (i:Nat):cC:=(lf m ((A[i]?).getD 0) e).getD {Has:=false,Val:=[]}
theorem zM {n:Nat} {l:List bW} {m:List aP} (h:Inv n l m) (hn:n≤10000) {lo hi:Nat} (hlo:isF lo) (hhi:isF hi) (e most:Int) :
  ∃ P Q,ib (some {rows:=l}) lo hi e most=some P∧oK m lo hi e most=some Q∧jm P Q=some true:=by
 have hm:=h.AT
 have g:=h.Ab
 have hln:=g.len
 obtain ⟨A,hA,gA⟩:=LG (fun y hy=>(h.xg y hy).1) (show m.length≤1000000 by omega)
 have hra:=Ic h gA
 have hll:l.length=A.length:=by have:=congrArg List.length hra; simpa using this
 have hrank:∀ i (h1:i<l.length) (h2:i<A.length),l[i].eW=aO A[i]:=fun i h1 h2=>by
  have := congrArg (fun t=>t[i]?) hra
  simp only [List.getElem?_map,List.getElem?_eq_getElem h1,List.getElem?_eq_getElem h2,Option.map_some] at this
  exact some_inj this
 have hgot:∀ i (h1:i<l.length) (h2:i<A.length),lf m A[i] e=some (Df m A e i)∧rU l[i].l e=some (Df m A e i):=fun i h1 h2=>by
  have hF:=gA.f _ (List.getElem_mem h2)
  obtain ⟨o,q1,_,q3⟩:=uP h hn hF e
  have hm1:=List.getElem_mem h1
  have hrow:qb l (aO A[i])=l[i].l:=by rw [← hrank i h1 h2]; exact IE h.rJ hm1
  rw [hrow] at q1
  obtain ⟨p,r1,r2⟩:=sw e (g.vr _ hm1) (g.vg _ hm1) (by have:=g.vl _ hm1; omega) (fun v hv=>by
   have := (h.Mw (r:=l[i].eW) (by rw [IE h.rJ hm1]; exact hv)).2.1; omega)
  have hop:o=p:=Ge (g.vr _ hm1) (List.Perm.refl _) q1 r1
  subst hop
  have hgi:Df m A e i=xZ o:=by unfold Df; rw [List.getElem?_eq_getElem h2,Option.getD_some,q3,Option.getD_some]
  rw [hgi]; exact ⟨q3,r2⟩
 let q:Nat→Bool:=fun i=>(Df m A e i).Has&&(decide (aO lo≤aO ((A[i]?).getD 0))&&decide (aO ((A[i]?).getD 0)≤aO hi))
 let fS:Nat→bP:=fun i=>{At:=(eP (aO ((A[i]?).getD 0))).getD 0,Val:=(Df m A e i).Val}
 let fR:Nat→bP:=fun i=>{At:=(A[i]?).getD 0,Val:=(Df m A e i).Val}
 have hR:bA (oa A most m e lo hi) ([],(0:Int))=some ((((List.range A.length).filter q).take most.toNat).map fR):=by
  refine BZ A.length 0 most.toNat q fR (fun _=>false) (Nat.zero_le _) (fun j h=>by omega) (fun i hi' _ out ho=>?_) (fun i _ h=>by cases h) (fun out=>by simp [oa,bG])
  have hF:=gA.f _ (List.getElem_mem hi')
  have e0:(A[i]?).getD 0=A[i]:=by rw [List.getElem?_eq_getElem hi',Option.getD_some]
  have em:decide (((out.length:Nat):Int)<most)=decide (out.length<most.toNat):=by
   rw [Bool.eq_iff_iff]; simp only [decide_eq_true_eq]; omega
  simp only [oa,gf hi',cond_true,em,cond_false,bD hi',Option.bind_some,(hgot i omA hi').1,Ha hF hlo hhi,cm (show i≤4294967295 by omega),q,fR,e0]
  cases decide (out.length<most.toNat) with
  | false=>simp [bG]
  | true =>
   simp only [cond_true]
   cases (Df m A e i).Has with
   | false=>simp
   | true =>
    simp only [cond_true,Bool.true_and]
    cases decide (aO lo≤aO A[i])&&decide (aO A[i]≤aO hi) with
    | false=>rfl
    | true =>
     simp only [cond_true]
     rw [dm (gC omA)]
 have hS:bA (jA {rows:=l} hi most e) ([],((pl rk (aO lo) l:Nat):Int))=some ((((List.range A.length).filter q).take most.toNat).map fS):=by
  refine BZ A.length (pl rk (aO lo) l) most.toNat q fS (fun i=>!(decide (aO ((A[i]?).getD 0)≤aO hi))) (by rw [← hll]; exact zf _ _ _) (fun j hj=>?_) (fun i hi' hpi out ho=>?_) (fun i hi' hst j hij hj=>?_) (fun out=>by simp [jA,bG,hll])
  ·have hjl:j<l.length:=Nat.lt_of_lt_of_le hj (zf _ _ _)
   have h1:rk l[j]<aO lo:=Gz hjl hj
   have e0:(A[j]?).getD 0=A[j]'omA:=by rw [List.getElem?_eq_getElem omA,Option.getD_some]
   have h2:¬ aO lo≤aO (A[j]'omA):=by rw [← hrank j hjl omA]; exact Int.not_le.2 h1
   simp only [q,e0,decide_eq_false h2,Bool.false_and,Bool.and_false]
  ·have hil:i<l.length:=by omega
   have hF:=gA.f _ (List.getElem_mem hi')
   have e0:(A[i]?).getD 0=A[i]:=by rw [List.getElem?_eq_getElem hi',Option.getD_some]
   have em:decide (((out.length:Nat):Int)<most)=decide (out.length<most.toNat):=by
    rw [Bool.eq_iff_iff]; simp only [decide_eq_true_eq]; omega
   obtain ⟨f,b1,b2,b3⟩:=FP hF
   simp only [jA,gf hil,cond_true,em,bD hil,Option.bind_some,mJ hhi,hrank i hil hi',(hgot i hil hi').2,b1,cm (show i≤4294967295 by omega),q,fS,e0,Option.getD_some]
   have h1:aO lo≤aO A[i]:=by rw [← hrank i hil hi']; exact FQ (s:=aO lo) h.rJ hil hpi
   by_cases h2:aO A[i]≤aO hi
   ·simp only [decide_eq_true h1,decide_eq_true h2,cond_true,Bool.not_true,cond_false,Bool.and_true]
    cases decide (out.length<most.toNat) with
    | false=>simp [bG]
    | true =>
     simp only [cond_true]
     cases (Df m A e i).Has with
     | false=>simp
     | true =>
      simp only [cond_true]
      rw [dm (gC omA)]
   ·simp only [decide_eq_false h2,cond_false,Bool.not_false,cond_true,bG,Option.map_some]
  ·have e0:(A[i]?).getD 0=A[i]:=by rw [List.getElem?_eq_getElem hi',Option.getD_some]
   have e1:(A[j]?).getD 0=A[j]:=by rw [List.getElem?_eq_getElem hj,Option.getD_some]
   rw [e0] at hst
   have h2:¬ aO A[i]≤aO hi:=by simpa using hst
   have h3:¬ aO A[j]≤aO hi:=by
    rcases Nat.eq_or_lt_of_le hij with hq | hq
    ·subst hq; exact h2
    ·have := gA.rJ.lt hi' hj hq; omega
   simp only [q,e1,decide_eq_false h3,Bool.and_false]
 have hlen:(((List.range A.length).filter q).take most.toNat).length≤1000000:=by
  have := List.length_filter_le q (List.range A.length)
  rw [List.length_range] at this
  have := gA.len
  rw [List.length_take]; omega
 refine ⟨_,_,?_,?_,EO (a:=(((List.range A.length).filter q).take most.toNat).map fS) (b:=(((List.range A.length).filter q).take most.toNat).map fR) (by rw [List.length_map,List.length_map]) (by rw [List.length_map]; exact hlen) fun i ha hb=>?_⟩
 ·simp only [ib,mJ hlo,Option.bind_some,zy h.rJ (show l.length≤1000000 by omega),hS]
 ·simp only [oK,hA,Option.bind_some,hR]
 ·rw [List.getElem_map,List.getElem_map]
  rw [List.length_map] at ha
  have hmem:=List.getElem_mem ha
  generalize (((List.range A.length).filter q).take most.toNat)[i]=j at hmem ⊢
  have hj:j<A.length:=List.mem_range.1 (List.mem_filter.1 (List.mem_of_mem_take hmem)).1
  have hF:=gA.f _ (List.getElem_mem hj)
  obtain ⟨f,b1,b2,b3⟩:=FP hF
  have e1:(A[j]?).getD 0=A[j]:=by rw [List.getElem?_eq_getElem hj,Option.getD_some]
  simp only [fS,fR,e1,b1,Option.getD_some]
  exact ⟨b2,hF,b3,trivial⟩
def gh (l:List aZ):Prop:=l.Pairwise fun a b=>a.cV<b.cV
def zi (s:Int) (x:aZ):Bool:=decide (x.cV<s)
theorem gh.lt {l:List aZ} (h:gh l) {a b:Nat} (ha:a<l.length) (hb:b<l.length) (hab:a<b):l[a].cV<l[b].cV:=List.pairwise_iff_getElem.1 h a b ha hb hab
theorem gh.ahd {l:List aZ} (h:gh l) (s:Int):Ahd (zi s) l:=fun a b ha hb hab hp=>by
 have := h.lt ha hb hab
 simp only [zi,decide_eq_true_eq] at hp ⊢
 omega
theorem Co (a b:Int):eO a b=some (if a<b then -1 else if a>b then 1 else 0):=by
 have h1:(a !=a)=false:=by simp
 have h2:(b !=b)=false:=by simp
 simp only [eO,kU,Option.bind_some,h1,h2,cond_false]
 by_cases h:a<b
 ·simp [h]
 ·by_cases h':a>b
  ·simp [h,h']
  ·simp [h,h']
def jn (s:Int) (l:List aZ):Nat:=lb (zi s) l
def uw (s:Int) (l:List aZ):Bool:=match l[jn s l]? with | some x=>x.cV==s | none=>false
theorem zD {l:List aZ} (h:gh l) (hn:l.length≤1000000) (s:Int):gB (some {l:=l}) s=some (((jn s l:Nat):Int),uw s l):=by
 have hs:bA (gY {l:=l} s) (((l.length:Nat):Int),(0:Int))=some ((lb (zi s) l:Nat):Int):=by
  refine ur (R:=Int) l (zi s) omA (h.ahd s) (fun i j k hk hij hke hj=>?_) (fun i j hij=>?_)
  ·have e1:decide ((i:Int)<(j:Int))=true:=by simpa using hij
   have e2:=yl (i:=i) (j:=j) omA
   rw [← hke] at e2
   simp only [gY,e1,cond_true,e2,bD hk,Option.bind_some,iH,Co]
   have e3:IntKind.i64.wrap ((k:Int)+(1:Int))=((k+1:Nat):Int):=wrap_add (a:=k) (b:=1) omA
   by_cases hl:l[k].cV<s
   ·simp [zi,hl,e3]
   ·have : ¬ (if l[k].cV>s then (1:Int) else 0)<0:=by split <;> omega
    simp [zi,hl,this]
  ·have e1:decide ((i:Int)<(j:Int))=false:=by simpa using hij
   simp only [gY,e1,cond_false,bG,Option.map_some]
 simp only [gB,hs,Option.bind_some,lE]
 rw [show lb (zi s) l=jn s l from rfl]
 unfold uw
 by_cases hk:jn s l<l.length
 ·have e1:decide (((jn s l:Nat):Int)<(l.length:Int))=true:=by simpa using hk
  rw [e1,cond_true,bD hk,Option.bind_some]
  simp only [iH,Co,Option.bind_some,List.getElem?_eq_getElem hk]
  by_cases h1:l[jn s l].cV<s
  ·have h2:¬ l[jn s l].cV=s:=by omega
   simp [h1,h2]
  ·by_cases h2:l[jn s l].cV>s
   ·have h3:¬ l[jn s l].cV=s:=by omega
    simp [h1,h2,h3]
   ·have h3:l[jn s l].cV=s:=by omega
    simp [h1,h2,h3]
 ·have e1:decide (((jn s l:Nat):Int)<(l.length:Int))=false:=by simpa using hk
  rw [e1,cond_false,List.getElem?_eq_none omA]
  rfl
theorem KU (s:Int) (l:List aZ):jn s l≤l.length:=Cm _ _
theorem FR {s:Int} {l:List aZ} {a:Nat} (h:a<l.length) (hp:a<jn s l):l[a].cV<s:=by
 have := HQ (p:=zi s) (l:=l) hp
 simpa [zi] using this
theorem FD {s:Int} {l:List aZ} (hr:gh l) {a:Nat} (h:a<l.length) (hp:jn s l≤a):s≤l[a].cV:=by
 have hpl:jn s l<l.length:=by omega
 have h1:zi s l[jn s l]=false:=JW (p:=zi s) (l:=l) hpl
 have h2:s≤l[jn s l].cV:=by simpa [zi] using h1
 rcases Nat.eq_or_lt_of_le hp with e | e
 ·subst e; exact h2
 ·have := hr.lt hpl h e
  omega
theorem Bi {S R:Type} (x:S) (f:S→Option R):ia (some (Sum.inl x)) f=f x:=rfl
def iq (s:Int) (l:List aZ):Option aZ:=bif uw s l then l[jn s l]? else none
theorem tM {s:Int} {l:List aZ} (h:uw s l=true):∃ hk:jn s l<l.length,l[jn s l].cV=s∧iq s l=some l[jn s l]:=by
 unfold iq
 rw [h,cond_true]
 unfold uw at h
 cases e:l[jn s l]? with
 | none=>rw [e] at h; cases h
 | some x =>
  rw [e] at h
  obtain ⟨hk,hx⟩:=List.getElem?_eq_some_iff.1 e
  exact ⟨hk,by rw [hx]; exact eq_of_beq h,by rw [hx]⟩
theorem mf {s:Int} {l:List aZ} (hr:gh l) {x:aZ}:iq s l=some x↔x∈l∧x.cV=s:=by
 constructor
 ·intro h
  cases hh:uw s l with
  | false=>simp [iq,hh] at h
  | true =>
   obtain ⟨hk,h1,h2⟩:=tM hh
   rw [h2] at h
   cases h
   exact ⟨List.getElem_mem hk,h1⟩
 ·rintro ⟨hx,hs⟩
  obtain ⟨a,ha,rfl⟩:=List.mem_iff_getElem.1 hx
  have h1:jn s l≤a:=by
   rcases Nat.lt_or_ge a (jn s l) with h | h
   ·have := FR ha h; omega
   ·exact h
  have hk:jn s l<l.length:=by omega
  have h2:a=jn s l:=by
   rcases Nat.eq_or_lt_of_le h1 with h | h
   ·exact h.symm
   ·have h3:=hr.lt hk ha h
    have h4:=FD hr hk (Nat.le_refl (jn s l))
    omega
  subst h2
  have hh:uw s l=true:=by
   unfold uw
   rw [List.getElem?_eq_getElem hk]
   simpa using hs
  unfold iq
  rw [hh,cond_true,List.getElem?_eq_getElem hk]
theorem uz {s:Int} {l:List aZ} (hr:gh l):iq s l=none↔∀ x∈l,x.cV≠s:=by
 constructor
 ·intro h x hx hs
  rw [(mf hr).2 ⟨hx,hs⟩] at h; cases h
 ·intro h
  cases e:iq s l with
  | none=>rfl
  | some x=>exact absurd ((mf hr).1 e).2 (h x ((mf hr).1 e).1)
def qi (s q:Int) (r:bB):aZ:={cV:=s,seq:=q,r:=r}
def vc (s:Int) (l:List aZ):Nat:=bif uw s l then jn s l+1 else jn s l
def oP (l:List aZ) (x:aZ):List aZ:=l.take (jn x.cV l)++x::l.drop (vc x.cV l)
theorem Cq {s:Int} {l:List aZ}:∀ x∈l.take (jn s l),x.cV<s:=by
 intro x hx
 obtain ⟨a,ha,rfl⟩:=List.mem_iff_getElem.1 hx
 rw [List.getElem_take]
 rw [List.length_take] at ha
 exact FR omA omA
theorem zN {s:Int} {l:List aZ} (hr:gh l):∀ x∈l.drop (vc s l),s<x.cV:=by
 intro x hx
 obtain ⟨a,ha,rfl⟩:=List.mem_iff_getElem.1 hx
 rw [List.length_drop] at ha
 rw [List.getElem_drop]
 have hlt:vc s l+a<l.length:=by omega
 cases hh:uw s l with
 | true =>
  obtain ⟨hk,h1,h2⟩:=tM hh
  have e:vc s l=jn s l+1:=by simp [vc,hh]
  have := hr.lt hk hlt omA
  omega
 | false =>
  have e:vc s l=jn s l:=by simp [vc,hh]
  have h1:=FD (s:=s) hr hlt omA
  have h2:l[vc s l+a].cV≠s:=fun h=>by
   have : iq s l=none:=by simp [iq,hh]
   exact (uz hr).1 this _ (List.getElem_mem hlt) h
  omega
theorem sK {l:List aZ} (hr:gh l) (x:aZ):gh (oP l x):=by
 have h1:gh (l.take (jn x.cV l)):=List.Pairwise.sublist (List.take_sublist _ _) hr
 have h2:gh (l.drop (vc x.cV l)):=List.Pairwise.sublist (List.drop_sublist _ _) hr
 refine List.pairwise_append.2 ⟨h1,List.pairwise_cons.2 ⟨zN hr,h2⟩,fun a ha b hb=>?_⟩
 have h3:=Cq a ha
 rcases List.mem_cons.1 hb with rfl | hb
 ·exact h3
 ·have := zN hr b hb; omega
theorem BB {s:Int} {l:List aZ} (hr:gh l):l.filter (fun x=>x.cV !=s)=l.take (jn s l)++l.drop (vc s l):=by
 have h1:(l.take (jn s l)).filter (fun x=>x.cV !=s)=l.take (jn s l):=List.filter_eq_self.2 fun x hx=>by have:=Cq x hx; simp; omega
 have h2:(l.drop (vc s l)).filter (fun x=>x.cV !=s)=l.drop (vc s l):=List.filter_eq_self.2 fun x hx=>by have:=zN hr x hx; simp; omega
 cases hh:uw s l with
 | false =>
  have e:vc s l=jn s l:=by simp [vc,hh]
  rw [e] at h2 ⊢
  conv => lhs; rw [← List.take_append_drop (jn s l) l]
  rw [List.filter_append,h1,h2]
 | true =>
  obtain ⟨hk,h3,h4⟩:=tM hh
  have e:vc s l=jn s l+1:=by simp [vc,hh]
  rw [e] at h2 ⊢
  conv => lhs; rw [← List.take_append_drop (jn s l) l]
  rw [List.filter_append,h1,List.drop_eq_getElem_cons hk,List.filter_cons,h2]
  simp [h3]
theorem sV {l:List aZ} (hr:gh l) (x:aZ):(oP l x).Perm (x::l.filter (fun y=>y.cV !=x.cV)):=by
 rw [BB hr]
 exact List.perm_middle
theorem Ax {l:List aZ} (hr:gh l) (x:aZ):(oP l x).length≤l.length+1:=by
 rw [(sV hr x).length_eq,List.length_cons]
 have := List.length_filter_le (fun y:aZ=>y.cV !=x.cV) l
 omega
def eR (s:Int) (l:List aZ):Int:=match iq s l with | some x=>x.seq | none=>0
theorem Jy {l:List aZ} (h:gh l) (hn:l.length≤999999) (s q:Int) (r:bB) (hq:0≤q):gU (some {l:=l}) s q r =
  some (if q=0 then (1,some {l:=l}) else if eR s l≥q then (10,some {l:=l}) else (0,some {l:=oP l (qi s q r)})):=by
 unfold gU
 dsimp only
 by_cases h0:q=0
 ·subst h0; rfl
 have e0:(q==(0:Int))=false:=by simpa using h0
 rw [e0,cond_false,zD h omA,Option.bind_some,if_neg h0]
 dsimp only
 cases hh:uw s l with
 | true =>
  obtain ⟨hk,h3,h4⟩:=tM hh
  have e1:eR s l=l[jn s l].seq:=by simp [eR,h4]
  simp only [cond_true,bD hk,Option.bind_some,e1]
  by_cases h5:l[jn s l].seq≥q
  ·rw [if_pos h5,decide_eq_true h5]; rfl
  ·rw [if_neg h5,decide_eq_false h5,cond_false,Bi]
   simp only [jP,Bool.not_true,cond_false,Option.bind_some,jU,bD hk,Int.toNat_natCast,List.set_set]
   have e2:vc s l=jn s l+1:=by simp [vc,hh]
   have : l.set (jn s l) (qi s q r)=oP l (qi s q r):=by
    unfold oP
    rw [show (qi s q r).cV=s from rfl,e2,List.set_eq_take_append_cons_drop,if_pos hk]
   rw [h3,← this]; rfl
 | false =>
  have e1:eR s l=0:=by simp [eR,iq,hh]
  have h5:¬ (0:Int)≥q:=by omega
  rw [e1,if_neg h5,cond_false,Bi]
  have hle:=KU s l
  have hok:th l ((jn s l:Nat):Int) [({cV:=s,seq:=(0:Int),r:=ct}:aZ)]=true:=by
   simp only [th,room,List.length_cons,List.length_nil]
   simp; omega
  have e2:vc s l=jn s l:=by simp [vc,hh]
  have hlt:(l.take (jn s l)).length=jn s l:=by rw [List.length_take]; omega
  simp only [jP,Bool.not_false,cond_true,fk,dm hok,Option.bind_some,jU,ins,Int.toNat_natCast,List.set_set]
  have hg:dC (l.take (jn s l)++([({cV:=s,seq:=(0:Int),r:=ct}:aZ)]++l.drop (jn s l))) ((jn s l:Nat):Int)=some ({cV:=s,seq:=(0:Int),r:=ct}:aZ):=by
   rw [wi,List.getElem?_append_right omA,hlt,Nat.sub_self]; rfl
  rw [hg,Option.bind_some]
  have : (l.take (jn s l)++([({cV:=s,seq:=(0:Int),r:=ct}:aZ)]++l.drop (jn s l))).set (jn s l) (qi s q r)=oP l (qi s q r):=by
   unfold oP
   rw [show (qi s q r).cV=s from rfl,e2,List.set_append_right _ _ omA,hlt,Nat.sub_self]; rfl
  rw [← this]; rfl
theorem JG {l:List aZ} (h:gh l) (hn:l.length≤1000000) (s q:Int):iP (some {l:=l}) s q =
  some (match iq s l with | none=>(ct,2) | some x=>if x.seq<q then (ct,2) else if x.seq>q then (ct,10) else (x.r,0)):=by
 unfold iP
 dsimp only
 rw [zD h hn,Option.bind_some]
 dsimp only
 cases hh:uw s l with
 | false=>simp [iq,hh]
 | true =>
  obtain ⟨hk,h3,h4⟩:=tM hh
  simp only [h4,Bool.not_true,cond_false,bD hk,Option.bind_some]
  by_cases h5:l[jn s l].seq<q
  ·simp [h5]
  ·by_cases h6:l[jn s l].seq>q
   ·simp [h5,h6]
   ·simp [h5,h6]
theorem Cn {l:List aZ} (h:gh l) (hn:l.length≤1000000) (s:Int):fH (some {l:=l}) s=some (eR s l):=by
 unfold fH
 dsimp only
 rw [zD h hn,Option.bind_some]
 dsimp only
 cases hh:uw s l with
 | false=>simp [eR,iq,hh]
 | true =>
  obtain ⟨hk,h3,h4⟩:=tM hh
  simp only [eR,h4,Bool.not_true,cond_false,bD hk,Option.bind_some]
theorem EH:gh []:=List.Pairwise.nil
theorem Fu {l:List aZ} (h:gh l) (x:aZ) (s:Int):iq s (oP l x)=if s=x.cV then some x else iq s l:=by
 have hm:∀ y,y∈oP l x↔y=x∨(y∈l∧y.cV≠x.cV):=fun y=>by
  rw [(sV h x).mem_iff,List.mem_cons,List.mem_filter]
  simp
 split
 ·rename_i e
  subst e
  exact (mf (sK h x)).2 ⟨(hm x).2 (.inl rfl),rfl⟩
 ·rename_i hne
  cases e:iq s l with
  | none =>
   refine (uz (sK h x)).2 fun y hy=>?_
   rcases (hm y).1 hy with rfl | ⟨h1,_⟩
   ·exact fun e=>hne e.symm
   ·exact (uz h).1 e y h1
  | some y =>
   obtain ⟨h1,h2⟩:=(mf h).1 e
   exact (mf (sK h x)).2 ⟨(hm y).2 (.inr ⟨h1,by rw [h2]; exact hne⟩),h2⟩
def okR (x:bB):Prop:=x.dU.length≤9223372036854775807∧x.aX.length≤9223372036854775807∧∀ l∈x.aX,l.length≤9223372036854775807∧∀ p∈l,isF p.At
theorem zG {α:Type} {body:Int→Option (Int ⊕ Bool)} (a:List α) (hn:a.length≤9223372036854775807) (h1:∀ (i:Nat) (hi:i<a.length),body (i:Int)=some (.inl (IntKind.i64.wrap ((i:Int)+(1:Int))))) (h2:body (a.length:Int)=some (.inr true)):bA body (0:Int)=some true:=by
 refine dW (fun i:Nat=>(i:Int)) a.length true (fun i hi=>?_) h2
 rw [h1 i hi]
 have : IntKind.i64.wrap ((i:Int)+(1:Int))=((i+1:Nat):Int):=by rw [wrap_i64] <;> push_cast <;> omega
 rw [this]
theorem BO (a:List cC) (hn:a.length≤9223372036854775807):iS a a=some true:=by
 unfold iS
 have e0:(((a.length:Nat):Int) !=((a.length:Nat):Int))=false:=by simp
 rw [e0,cond_false]
 refine zG a hn (fun i hi=>?_) ?_
 ·have e1:decide ((i:Int)<(a.length:Int))=true:=by simpa using hi
  have e2:(a[i].Has==a[i].Has)=true:=by simp
  simp only [gV,e1,cond_true,bD hi,Option.bind_some,e2,sc,Bool.not_true,cond_false]
 ·simp [gV,bG]
theorem Ku {a:Nat} (ha:isF a):fW a a=some true:=by rw [yX ha ha,DS rfl]
theorem EV (a:List bP) (hn:a.length≤9223372036854775807) (hf:∀ p∈a,isF p.At):jm a a=some true:=by
 unfold jm
 have e0:(((a.length:Nat):Int) !=((a.length:Nat):Int))=false:=by simp
 rw [e0,cond_false]
 refine zG a hn (fun i hi=>?_) ?_
 ·have e1:decide ((i:Int)<(a.length:Int))=true:=by simpa using hi
  simp only [ie,e1,cond_true,bD hi,Option.bind_some,Ku (hf _ (List.getElem_mem hi)),sc,Bool.not_true,cond_false]
 ·simp [ie,bG]
theorem yh {a:bB} (h:okR a):gI a a=some true:=by
 obtain ⟨h1,h2,h3⟩:=h
 unfold gI
 have e0:∀ x:Int,(x !=x)=false:=fun x=>by simp
 rw [e0,e0,e0,e0,cond_false,cond_false,cond_false,cond_false,BO _ h1,Option.bind_some,Bool.not_true,cond_false]
 refine zG a.aX h2 (fun i hi=>?_) ?_
 ·have e1:decide ((i:Int)<(a.aX.length:Int))=true:=by simpa using hi
  have g:=h3 _ (List.getElem_mem hi)
  simp only [im,e1,cond_true,bD hi,Option.bind_some,EV _ g.1 g.2,Bool.not_true,cond_false]
 ·simp [im,bG]
theorem LD {x:bB} (g:tc x):okR x:=by
 obtain ⟨_,_,_,g4,g5,g6,g7⟩:=g
 exact ⟨by omega,by omega,fun l hl=>⟨by have:=(g5 l hl).1; omega,fun p hp=>((g5 l hl).2 p hp).1⟩⟩
def an (x:aZ):dh:={ab:=x.cV,Seq:=x.seq,R:=x.r}
def Rel (l:List aZ) (m:List dh):Prop:=(l.map an).Perm m
def dfl (s:Int):dh:={ab:=s,Seq:=0,R:=ct}
theorem Jz (m:List dh) (hn:m.length≤1000000) (s:Int):ku m s=some ((m.find? fun a=>a.ab==s).getD (dfl s)):=by
 have key:∀ (k i:Nat),m.length - i≤k→i≤m.length→bA (mG m s) (i:Int)=some (((m.drop i).find? fun a=>a.ab==s).getD (dfl s)):=by
  intro k
  induction k with
  | zero =>
   intro i hk hi
   have e:i=m.length:=by omega
   subst e
   rw [fM]
   simp [mG,bG,dfl]
  | succ k ih =>
   intro i hk hi
   by_cases hlt:i<m.length
   ·have e1:decide ((i:Int)<(m.length:Int))=true:=by simpa using hlt
    rw [fM,List.drop_eq_getElem_cons hlt]
    simp only [mG,e1,cond_true,bD hlt,Option.bind_some,List.find?_cons]
    cases hb:(m[i].ab==s) with
    | true=>simp [bG]
    | false =>
     have e2:IntKind.i64.wrap ((i:Int)+(1:Int))=((i+1:Nat):Int):=wrap_add (a:=i) (b:=1) omA
     simp only [cond_false,Option.bind_some,e2]
     exact ih (i+1) omA omA
   ·have e:i=m.length:=by omega
    subst e
    rw [fM]
    simp [mG,bG,dfl]
 have := key m.length 0 omA omA
 rw [List.drop_zero] at this
 exact this
theorem Ig {l:List aZ} {m:List dh} (hr:gh l) (h:Rel l m) (s:Int):(m.find? fun a=>a.ab==s)=(iq s l).map an:=by
 cases e:iq s l with
 | none =>
  rw [Option.map_none,List.find?_eq_none]
  intro a ha
  obtain ⟨x,hx,rfl⟩:=List.mem_map.1 (h.mem_iff.2 ha)
  have := (uz hr).1 e x hx
  simpa [an] using this
 | some x =>
  obtain ⟨h1,h2⟩:=(mf hr).1 e
  have hx:an x∈m:=h.mem_iff.1 (List.mem_map_of_mem h1)
  cases e2:m.find? fun a=>a.ab==s with
  | none =>
   have := List.find?_eq_none.1 e2 _ hx
   simp [an,h2] at this
  | some a =>
   have ha:=List.mem_of_find?_eq_some e2
   have hs:a.ab=s:=by have:=List.find?_some e2; simpa using this
   obtain ⟨y,hy,rfl⟩:=List.mem_map.1 (h.mem_iff.2 ha)
   have h3:iq s l=some y:=(mf hr).2 ⟨hy,hs⟩
   rw [e] at h3
   cases h3; rfl
theorem Bd {l:List aZ} {m:List dh} (hr:gh l) (h:Rel l m) (hn:l.length≤1000000) (s:Int):ku m s=some (match iq s l with | some x=>an x | none=>dfl s):=by
 rw [Jz m (by rw [← h.length_eq,List.length_map]; exact hn) s,Ig hr h]
 cases iq s l <;> rfl
theorem GJ (m:List dh) (hn:m.length≤1000000) (s:Int) (x:dh):bA (kN m s) ([x],(0:Int))=some (x::m.filter (fun a=>a.ab !=s),(0:Int)):=by
 have key:∀ (k i:Nat) (acc:List dh),m.length - i≤k→i≤m.length→acc.length≤i+1→bA (kN m s) (acc,(i:Int))=some (acc++(m.drop i).filter (fun a=>a.ab !=s),(0:Int)):=by
  intro k
  induction k with
  | zero =>
   intro i acc hk hi ha
   have e:i=m.length:=by omega
   subst e
   rw [fM]
   simp [kN,bG]
  | succ k ih =>
   intro i acc hk hi ha
   by_cases hlt:i<m.length
   ·have e1:decide ((i:Int)<(m.length:Int))=true:=by simpa using hlt
    have e2:IntKind.i64.wrap ((i:Int)+(1:Int))=((i+1:Nat):Int):=wrap_add (a:=i) (b:=1) omA
    have e3:room acc [m[i]]=true:=room_le (by simp only [List.length_cons,List.length_nil]; omega)
    rw [fM,List.drop_eq_getElem_cons hlt]
    simp only [kN,e1,cond_true,bD hlt,Option.bind_some,List.filter_cons,e2]
    cases hb:(m[i].ab !=s) with
    | true =>
     simp only [cond_true,dm e3,Option.bind_some,if_true]
     rw [ih (i+1) (acc++[m[i]]) omA omA (by simp only [List.length_append,List.length_cons,List.length_nil]; omega)]
     simp
    | false =>
     simp only [cond_false,Option.bind_some,Bool.false_eq_true,if_false]
     exact ih (i+1) acc omA omA omA
   ·have e:i=m.length:=by omega
    subst e
    rw [fM]
    simp [kN,bG]
 simpa using key m.length 0 [x] omA omA (by simp)
theorem KZ {l:List aZ} {m:List dh} (hr:gh l) (h:Rel l m) (hn:l.length≤999999) (s q:Int) (r:bB):qB m s q r =
  some (if q=0 then (m,1) else if eR s l≥q then (m,10) else (an (qi s q r)::m.filter (fun a=>a.ab !=s),0)):=by
 unfold qB
 by_cases h0:q=0
 ·subst h0; rfl
 have e0:(q==(0:Int))=false:=by simpa using h0
 have e1:(match iq s l with | some x=>an x | none=>dfl s).Seq=eR s l:=by unfold eR; cases iq s l <;> rfl
 rw [e0,cond_false,Bd hr h omA,Option.bind_some,e1,if_neg h0]
 by_cases h5:eR s l≥q
 ·rw [if_pos h5,decide_eq_true h5,cond_true]
 ·rw [if_neg h5,decide_eq_false h5,cond_false]
  exact GJ m (by rw [← h.length_eq,List.length_map]; omega) s _
theorem BL {l:List aZ} {m:List dh} (hr:gh l) (h:Rel l m) (x:aZ):Rel (oP l x) (an x::m.filter (fun a=>a.ab !=x.cV)):=by
 unfold Rel
 refine ((sV hr x).map an).trans ?_
 rw [List.map_cons]
 refine List.Perm.cons _ ?_
 have h2:=h.filter (fun a=>a.ab !=x.cV)
 rw [List.filter_map] at h2
 exact h2
def GK (l:List aZ):Prop:=∀ x∈l,okR x.r∧0<x.seq
theorem DX {l:List aZ} (hr:gh l) (h:GK l) {x:aZ} (hx:okR x.r∧0<x.seq):GK (oP l x):=by
 intro y hy
 have := (sV hr x).mem_iff.1 hy
 rcases List.mem_cons.1 this with rfl | h2
 ·exact hx
 ·exact h y (List.mem_filter.1 h2).1
def qe (id:Int) (x:dj):Bool:=x.r.ID==id&&x.to_==0
def iv (id e:Int) (x:dj):dj:=bif qe id x then {x with to_:=if (1:Int)>e then 1 else e} else x
theorem Hy {α:Type} (f:α→α) (l:List α) (i:Nat) (h:i<l.length):((l.take i).map f++l.drop i).set i (f l[i])=(l.take (i+1)).map f++l.drop (i+1):=by
 rw [List.set_append_right _ _ (by simp; omega)]
 have e:i - ((l.take i).map f).length=0:=by simp; omega
 rw [e,List.drop_eq_getElem_cons h,List.set_cons_zero,List.take_succ_eq_append_getElem h,List.map_append,List.append_assoc]
 rfl
theorem Hh {α:Type} (f:α→α) (l:List α) (i:Nat) (h:i<l.length):((l.take i).map f++l.drop i)[i]?=some l[i]:=by
 rw [List.getElem?_append_right (by simp; omega)]
 have e:i - ((l.take i).map f).length=0:=by simp; omega
 rw [e,List.getElem?_drop,Nat.add_zero,List.getElem?_eq_getElem h]
theorem Fb {α:Type} (f:α→α) (l:List α) (i:Nat) (h:i<l.length) (hf:f l[i]=l[i]):(l.take i).map f++l.drop i=(l.take (i+1)).map f++l.drop (i+1):=by
 rw [List.drop_eq_getElem_cons h,List.take_succ_eq_append_getElem h,List.map_append,List.append_assoc]
 simp only [List.map_cons,List.map_nil,hf]
 rfl
theorem As {α:Type} (p:α→Bool) (l:List α) (i:Nat) (h:i<l.length):(l.take (i+1)).any p=((l.take i).any p||p l[i]):=by
 rw [List.take_succ_eq_append_getElem h,List.any_append]
 simp
theorem zT (b:cg) (id e:Int) (hl:b.l.length≤1000000):gF (some b) id e=some (b.l.any (qe id),some {l:=b.l.map (iv id e)}):=by
 unfold gF
 have h:=dW (body:=hH b id e) (fun i=>({l:=(b.l.take i).map (iv id e)++b.l.drop i},(i:Int),(b.l.take i).any (qe id))) b.l.length (b.l.any (qe id),some {l:=b.l.map (iv id e)}) ?_ ?_
 ·simpa using h
 ·intro i hi
  have e1:decide ((i:Int)<(b.l.length:Int))=true:=by simpa using hi
  have e2:IntKind.i64.wrap ((i:Int)+1)=((i+1:Nat):Int):=by rw [wrap_i64] <;> omega
  simp only [hH,e1,cond_true,wi,Hh _ _ _ hi,Option.bind_some,e2,As _ _ _ hi]
  cases hh:qe id b.l[i] with
  | true =>
   have hr:iv id e b.l[i]={r:=b.l[i].r,from_:=b.l[i].from_,to_:=if (1:Int)>e then 1 else e}:=by simp [iv,hh]
   simp only [qe,Bool.and_eq_true] at hh
   rw [hh.1,hh.2,Bool.or_true,← hr,Int.toNat_natCast,Hy _ _ _ hi]
   rfl
  | false =>
   have hr:iv id e b.l[i]=b.l[i]:=by simp [iv,hh]
   rw [Bool.or_false,← Fb _ _ _ hi hr]
   simp only [qe] at hh
   cases h1:(b.l[i].r.ID==id) with
   | false=>rfl
   | true =>
    rw [h1,Bool.true_and] at hh
    rw [hh]; rfl
 ·have e1:decide ((b.l.length:Int)<(b.l.length:Int))=false:=by simp
  simp only [hH,e1,cond_false,bG,Option.map_some,List.take_length,List.drop_length,List.append_nil]
theorem EN (b:cg) (r:dV) (e:Int) (hl:b.l.length≤1000000):jb (some b) r e=some (some {l:=b.l.map (iv r.ID e)++[{r:=r,from_:=e,to_:=0}]}):=by
 simp only [jb,zT b r.ID e hl,Option.bind_some]
 rw [dm (room_le (by simp; omega))]
def ry (id e:Int) (x:dj):Bool:=x.r.ID==id&&(decide (x.from_≤e)&&(x.to_==0||decide (x.to_>e)))
def JV:dV:={ID:=0,dn:=0,To:=0,Lo:=0,Hi:=0,Authority:=0,cx:=0}
def yk:Option dj→dV×Bool
 | some x=>(x.r,true)
 | none=>(JV,false)
def nW (p:dj→Bool) (l:List dj):Option dj:=l.reverse.find? p
theorem Hv (b:cg) (id e:Int) (i:Nat) (h:i<b.l.length) (hl:b.l.length≤1000000):iR b id e (i:Int)=bif ry id e b.l[i] then some (.inr (b.l[i].r,true)) else some (.inl ((i:Int) - 1)):=by
 have e1:decide ((i:Int)≥0)=true:=by simp
 have e2:IntKind.i64.wrap ((i:Int) - 1)=(i:Int) - 1:=by rw [wrap_i64] <;> omega
 simp only [iR,e1,cond_true,bD h,Option.bind_some,e2,bG,Option.map_some,ry]
 cases (b.l[i].r.ID==id) <;> cases decide (b.l[i].from_≤e) <;> cases (b.l[i].to_==0) <;> cases decide (b.l[i].to_>e) <;> rfl
theorem HE (b:cg) (id e:Int) (hl:b.l.length≤1000000):∀ n,n≤b.l.length→bA (iR b id e) ((n:Int) - 1)=some (yk (nW (ry id e) (b.l.take n))):=by
 intro n
 induction n with
 | zero =>
  intro _
  rw [fM]
  rfl
 | succ n ih =>
  intro hn
  have e0:((n+1:Nat):Int) - 1=(n:Int):=by omega
  rw [fM,e0,Hv b id e n omA hl,List.take_succ_eq_append_getElem omA]
  simp only [nW,List.reverse_append,List.reverse_cons,List.reverse_nil,List.nil_append,List.singleton_append,List.find?_cons]
  cases ry id e b.l[n] with
  | true=>rfl
  | false=>exact ih omA
theorem Ki (b:cg) (id e:Int) (hl:b.l.length≤1000000):pp (some b) id e=some (yk (nW (ry id e) b.l)):=by
 have e2:IntKind.i64.wrap ((b.l.length:Int) - 1)=(b.l.length:Int) - 1:=by rw [wrap_i64] <;> omega
 show bA (iR b id e) (IntKind.i64.wrap ((b.l.length:Int) - 1))=_
 rw [e2]
 have := HE b id e hl b.l.length (Nat.le_refl _)
 rwa [List.take_length] at this
theorem BE (p:dj→Bool) (l:List dj) (x:dj):nW p (l++[x])=if p x then some x else nW p l:=by
 simp [nW,List.find?_cons]
 cases p x <;> rfl
def wF (r:dV):Prop:=r.Lo<18446744073709551616∧r.Hi<18446744073709551616
def eM (x:dj):dA:={R:=x.r,dn:=x.from_,To:=x.to_}
theorem zU (id e:Int) (he:0≤e) (x:dj):eM (iv id e x)=bif qe id x then {R:=x.r,dn:=x.from_,To:=bif e==0 then 1 else e} else eM x:=by
 unfold iv
 cases qe id x with
 | false=>rfl
 | true =>
  simp only [cond_true,eM,dA.mk.injEq,true_and]
  by_cases h:e=0
  ·subst h; rfl
  ·have h1:¬ (1:Int)>e:=by omega
   have h2:(e==0)=false:=by simpa using h
   rw [if_neg h1,h2]; rfl
theorem Be (l:List dj) (id e:Int) (he:0≤e) (hl:l.length≤1000000):pH (l.map eM) id e=some ((l.map (iv id e)).map eM,l.any (qe id)):=by
 have key:∀ z:Int,(bif e==0 then (1:Int) else e)=z→nV (l.map eM) id z=some ((l.map (iv id e)).map eM,l.any (qe id)):=by
  intro z hz
  unfold nV
  have h:=dW (body:=kx (l.map eM) id z) (fun i=>((i:Int),((l.take i).map (iv id e)).map eM,(l.take i).any (qe id))) l.length (((l.map (iv id e)).map eM,l.any (qe id))) ?_ ?_
  ·have h0:bA (kx (l.map eM) id z) ((0:Int),[],false)=some ((l.map (iv id e)).map eM,l.any (qe id)):=by simpa using h
   rw [h0]; rfl
  ·intro i hi
   have e1:decide ((i:Int)<((l.map eM).length:Int))=true:=by simpa using hi
   have e2:IntKind.i64.wrap ((i:Int)+1)=((i+1:Nat):Int):=by rw [wrap_i64] <;> omega
   have hg:dC (l.map eM) (i:Int)=some (eM l[i]):=by rw [bD (by simpa using hi)]; simp
   have hroom:∀ y:dA,room (((l.take i).map (iv id e)).map eM) [y]=true:=fun y=>room_le (by simp; omega)
   have CD:∀ y:dA,y=eM (iv id e l[i])→((l.take i).map (iv id e)).map eM++[y]=((l.take (i+1)).map (iv id e)).map eM:=by
    intro y hy
    rw [List.take_succ_eq_append_getElem hi,List.map_append,List.map_append,hy]
    rfl
   simp only [kx,e1,cond_true,hg,Option.bind_some,As _ _ _ hi]
   cases hh:qe id l[i] with
   | true =>
    have hh2:=hh
    simp only [qe,Bool.and_eq_true] at hh2
    have c1:((eM l[i]).R.ID==id)=true:=hh2.1
    have c2:((eM l[i]).To==0)=true:=hh2.2
    simp only [c1,c2,cond_true,Option.bind_some,lO,e2,dm (hroom _),Bool.or_true]
    rw [CD]
    rw [zU _ _ he,hh,← hz]; rfl
   | false =>
    have hx:eM (iv id e l[i])=eM l[i]:=by rw [zU _ _ he,hh]; rfl
    have hs:=CD (eM l[i]) hx.symm
    have fin:lO (((l.take i).map (iv id e)).map eM) (eM l[i]) (i:Int) ((l.take i).any (qe id),(eM l[i]).To)=some (Sum.inl (((i+1:Nat):Int),((l.take (i+1)).map (iv id e)).map eM,(l.take i).any (qe id))):=by
     simp only [lO,e2,dm (hroom _)]
     rw [← hs]
    rw [Bool.or_false]
    cases h1:((eM l[i]).R.ID==id) with
    | false=>exact fin
    | true =>
     have h2:((eM l[i]).To==0)=false:=by
      have : qe id l[i]=(((eM l[i]).R.ID==id)&&((eM l[i]).To==0)):=rfl
      rw [this,h1,Bool.true_and] at hh
      exact hh
     rw [h2]; exact fin
  ·have e1:decide ((l.length:Int)<((l.map eM).length:Int))=false:=by simp
   simp only [kx,e1,cond_false,bG,Option.map_some,List.take_length]
 unfold pH
 cases h:(e==0) with
 | true=>exact key 1 (by rw [h]; rfl)
 | false=>exact key e (by rw [h]; rfl)
theorem ES (l:List dj) (id e:Int) (hl:l.length≤1000000):wo (l.map eM) id e=some (yk (nW (ry id e) l)):=by
 unfold wo
 let st:Nat→Int×Int×Int×Nat×Nat×Int×Int×Int×Bool:=fun i =>
  let r:=yk (nW (ry id e) (l.take i))
  (r.1.ID, r.1.dn,r.1.To,r.1.Lo,r.1.Hi,r.1.Authority,r.1.cx,(i:Int),r.2)
 let fin:Int×Int×Int×Nat×Nat×Int×Int×Bool :=
  let r:=yk (nW (ry id e) l)
  (r.1.ID, r.1.dn,r.1.To,r.1.Lo,r.1.Hi,r.1.Authority,r.1.cx,r.2)
 have h:=dW (body:=oQ (l.map eM) id e) st l.length fin ?_ ?_
 ·have h0:bA (oQ (l.map eM) id e) ((0:Int),(0:Int),(0:Int),(0:Nat),(0:Nat),(0:Int),(0:Int),(0:Int),false)=some fin:=h
  rw [h0]; rfl
 ·intro i hi
  have e1:decide ((i:Int)<((l.map eM).length:Int))=true:=by simpa using hi
  have e2:IntKind.i64.wrap ((i:Int)+1)=((i+1:Nat):Int):=by rw [wrap_i64] <;> omega
  have hg:dC (l.map eM) (i:Int)=some (eM l[i]):=by rw [bD (by simpa using hi)]; simp
  simp only [st,oQ,e1,cond_true,hg,Option.bind_some,e2,List.take_succ_eq_append_getElem hi,BE]
  have ht:ry id e l[i]=(((eM l[i]).R.ID==id)&&(decide ((eM l[i]).dn≤e)&&(((eM l[i]).To==0)||decide (e<(eM l[i]).To)))):=rfl
  rw [ht]
  cases ((eM l[i]).R.ID==id) <;> cases decide ((eM l[i]).dn≤e) <;> cases ((eM l[i]).To==0) <;> cases decide (e<(eM l[i]).To) <;> rfl
 ·have e1:decide ((l.length:Int)<((l.map eM).length:Int))=false:=by simp
  simp only [st,fin,oQ,e1,cond_false,bG,Option.map_some,List.take_length]
theorem Hc {l:List dj} (h:∀ x∈l,wF x.r) (p:dj→Bool):wF (yk (nW p l)).1:=by
 cases hf:nW p l with
 | none=>exact ⟨by decide,by decide⟩
 | some x=>exact h x (List.mem_reverse.1 (List.mem_of_find?_eq_some hf))
theorem Jd (e:Int):fX (some {l:=[]}) e=some false:=by
 have h:bA (gH {l:=[]} e) (0:Int)=some (-1):=by rw [fM]; rfl
 simp only [fX,h,Option.bind_some]; rfl
theorem HR:oZ=some true:=by
 unfold oZ
 simp only [uQ,uY,tL,qF,sn,Option.bind_some]
 unfold df
 unfold kw lD
 simp only [Jd]
 rfl
def zg (n:Nat) (v:List Int):List Int:=(List.range n).map fun i=>(v[i]?).getD 0
theorem KE (n:Nat) (v:List Int):cpy (List.replicate n (0:Int)) v=zg n v:=by
 unfold cpy zg
 rw [List.length_replicate]
 apply List.ext_getElem
 ·simp only [List.length_append,List.length_take,List.length_drop,List.length_replicate,List.length_map,List.length_range]; omega
 ·intro i h1 h2
  rw [List.getElem_map,List.getElem_range]
  rw [List.length_map,List.length_range] at h2
  by_cases hv:i<v.length
  ·rw [List.getElem_append_left (by rw [List.length_take]; omega),List.getElem_take,List.getElem?_eq_getElem hv,Option.getD_some]
  ·rw [List.getElem_append_right (by rw [List.length_take]; omega),List.getElem_drop,List.getElem_replicate,List.getElem?_eq_none omA,Option.getD_none]
theorem Mb (w:bK) {n:Int} (hn:n≤1000000):wg w n=some {w with Val:=if w.Del then [] else zg n.toNat w.Val}:=by
 have e0:(if (0:Int)>n then (0:Int) else n)=((n.toNat:Nat):Int):=by split <;> omega
 unfold wg
 rw [e0,dm (by simp [Iy]; omega),Int.toNat_natCast,KE]
 cases hd:w.Del <;> simp [ux,hd]
theorem HG (w:bK) {n:Int} (hn:n≤1000000):vd w n=some {w with Val:=if w.Del then [] else zg n.toNat w.Val}:=by
 unfold vd
 cases hd:w.Del with
 | true =>
  have h:bA (lW n w) ([],(0:Int))=some []:=by
   rw [fM]
   simp only [lW,hd,Bool.not_true,cond_false]
   cases decide ((0:Int)<n) <;> rfl
  rw [h,Option.bind_some]
  simp only [rF,hd,if_true]
 | false =>
  have h:=dW (body:=lW n w) (fun i=>(zg i w.Val,(i:Int))) n.toNat (zg n.toNat w.Val) (fun i hi=>by
   have e1:decide ((i:Int)<n)=true:=by simp; omega
   have e2:(bif decide ((i:Int)<((w.Val.length:Nat):Int)) then (dC w.Val (i:Int)).bind fun x=>some x else some (0:Int))=some ((w.Val[i]?).getD 0):=by
    by_cases hv:i<w.Val.length
    ·rw [gf hv,cond_true,bD hv,Option.bind_some,List.getElem?_eq_getElem hv,Option.getD_some]
    ·have : decide ((i:Int)<((w.Val.length:Nat):Int))=false:=by simp; omega
     rw [this,cond_false,List.getElem?_eq_none omA,Option.getD_none]
   have hl:(zg i w.Val).length=i:=by simp [zg]
   simp only [lW,e1,cond_true,hd,Bool.not_false,e2,Option.bind_some,tC,cm (show i≤4294967295 by omega)]
   rw [dm (gC omA)]
   simp [zg,List.range_succ]) (by
   have e1:decide (((n.toNat:Nat):Int)<n)=false:=by simp; omega
   simp only [lW,e1,cond_false,bG,Option.map_some])
  have h0:zg 0 w.Val=[]:=rfl
  rw [h0] at h
  rw [show (((0:Nat)):Int)=(0:Int) from rfl] at h
  rw [h,Option.bind_some]
  simp only [rF,hd,Bool.false_eq_true,if_false]
theorem Fg {a b:bK} (ha:a.At<18446744073709551616) (hb:b.At<18446744073709551616) (h1:aO a.At=aO b.At) (h2:a.Del=b.Del) (h3:a.Val=b.Val):iF [a] [b]=some true:=by
 have e:((([a]:List bK).length:Int) !=(([b]:List bK).length:Int))=false:=by simp
 unfold iF
 rw [e,cond_false]
 refine dW (fun i=>(i:Int)) 1 true (fun i hi=>?_) (by simp [gQ,bG])
 have : i=0:=by omega
 subst this
 have d0:decide (((0:Nat):Int)<((([a]:List bK).length:Nat):Int))=true:=by simp
 have g0:dC [a] (((0:Nat)):Int)=some a:=rfl
 have g1:dC [b] (((0:Nat)):Int)=some b:=rfl
 simp only [gQ,d0,cond_true,g0,g1,Option.bind_some,rn ha hb,h1,decide_true,Bool.not_true,cond_false,h2,h3,BEq.rfl,sc,cm (i:=0) omA]
theorem U8s.tail {a b:List Int} (h:U8s (a++b)):U8s b:=fun y hy=>h y (List.mem_append_right _ hy)
theorem RD.step {α:Type} {f:ag→Option (α×ag)} {b q:List Int} {x:α} (h:RD f b x) (hu:U8s (b++q)) (hl:(b++q).length≤1000000000):f {p:=b++q,bad:=false}=some (x,{p:=q,bad:=false})∧U8s q∧q.length≤1000000000:=by
 rw [List.length_append] at hl
 exact ⟨h.2 q hu.tail hl,hu.tail,by omega⟩
theorem WR.step {f:ao→Option ao} {b p q:List Int} (h:WR f b) (hp:p.length+(b++q).length≤1000000000):f {p:=p}=some {p:=p++b}∧(p++b).length+q.length≤1000000000:=by
 rw [List.length_append] at hp
 exact ⟨h p omA,by rw [List.length_append]; omega⟩
theorem Ia {β:Type} (l:List β) (e:β→List Int) {i:Nat} (hi:i<l.length):((l.drop i).map e).flatten=e l[i]++((l.drop (i+1)).map e).flatten∧(l.map e).flatten=((l.take i).map e).flatten++(e l[i]++((l.drop (i+1)).map e).flatten):=by
 have h:((l.drop i).map e).flatten=e l[i]++((l.drop (i+1)).map e).flatten:=by rw [List.drop_eq_getElem_cons hi,List.map_cons,List.flatten_cons]
 exact ⟨h,by rw [← h,← List.flatten_append,← List.map_append,List.take_append_drop]⟩
theorem RD.range {β S R:Type} {body:S→Option (S ⊕ R)} (l:List β) (e:β→List Int) (st:ag→Nat→S) (fin:R) (q:List Int) (hu:U8s ((l.map e).flatten++q)) (hl:((l.map e).flatten++q).length≤1000000000)
  (hb : ∀ i (hi:i<l.length) q',U8s (e l[i]++q')→(e l[i]++q').length≤1000000000→body (st {p:=e l[i]++q',bad:=false} i)=some (Sum.inl (st {p:=q',bad:=false} (i+1))))
  (he : body (st {p:=q,bad:=false} l.length)=some (Sum.inr fin)):bA body (st {p:=(l.map e).flatten++q,bad:=false} 0)=some fin:=by
 have h:=dW (body:=body) (fun i=>st {p:=((l.drop i).map e).flatten++q,bad:=false} i) l.length fin (fun i hi=>?_) (by simpa using he)
 ·simpa using h
 ·obtain ⟨h1,h2⟩:=Ia l e hi
  rw [h2,List.append_assoc,List.append_assoc] at hu hl
  rw [h1,List.append_assoc]
  exact hb i hi _ hu.tail (by rw [List.length_append] at hl; omega)
theorem xj {β:Type} (e:β→List Int) (h:∀ x,1≤(e x).length):∀ l:List β,l.length≤(l.map e).flatten.length
 | []=>Nat.le_refl _
 | x::l=>by
  have := xj e h l
  have := h x
  rw [List.map_cons,List.flatten_cons,List.length_append,List.length_cons]; omega
theorem nq {S R:Type} (x:S) (f:S→Option R):ia (some (Sum.inl x)) f=f x:=rfl
theorem yZ {i:Nat} (h:i≠0) (h2:i≤4294967296):IntKind.i64.wrap ((i:Int) - (1:Int))=((i - 1:Nat):Int):=sM (a:=i) (b:=1) omA h2
def kL {β:Type} (e:β→List Int) (l:List β):List Int:=leB 4 l.length++(l.map e).flatten
theorem Dz {β:Type} {body:ao×Int→Option ((ao×Int) ⊕ List Int)} {l:List β} {e:β→List Int} (hl:(l.map e).flatten.length≤900000000) (hn:l.length≤1000000)
  (hb : ∀ i (hi:i<l.length) (p:List Int),p.length+(e l[i]).length≤1000000000→body ({p:=p},(i:Int))=some (Sum.inl (({p:=p++e l[i]}:ao),IntKind.i64.wrap ((i:Int)+(1:Int)))))
  (he : ∀ w,body (w,(l.length:Int))=some (Sum.inr w.p)):((ax {p:=[]} (IntKind.u64.wrap (l.length:Int)) (4:Int)).bind fun t=>bA body (t,(0:Int)))=some (kL e l):=by
 have h1:ax {p:=[]} (IntKind.u64.wrap (l.length:Int)) (4:Int)=some {p:=[]++leB 4 l.length}:=WR.cnt l.length omA [] (by simp only [List.length_nil,dz]; omega)
 rw [h1,Option.bind_some,List.nil_append]
 exact WR.HT (body:=body) (fun w=>w.p) (l.map e) (by rw [List.length_map]; omega) (fun i hi p hp=>by
  rw [List.length_map] at hi
  rw [List.getElem_map] at hp ⊢; exact hb i hi p hp) (fun w=>by rw [List.length_map]; exact he w) _ (by rw [dz]; omega)
theorem Db {β:Type} {body:ao×Int→Option ((ao×Int) ⊕ List Int)} {l:List β} {e:β→List Int} (hl:(l.map e).flatten.length≤900000000) (hn:l.length≤1000000)
  (hb : ∀ i (hi:i<l.length),∃ F:ao→Option ao,WR F (e l[i])∧∀ w,body (w,(i:Int))=(F w).bind fun t=>some (Sum.inl (t,IntKind.i64.wrap ((i:Int)+(1:Int)))))
  (he : ∀ w,body (w,(l.length:Int))=some (Sum.inr w.p)):((ax {p:=[]} (IntKind.u64.wrap (l.length:Int)) (4:Int)).bind fun t=>bA body (t,(0:Int)))=some (kL e l) :=
 Dz hl hn (fun i hi p hp=>by
  obtain ⟨F,h1,h2⟩:=hb i hi
  rw [h2,h1 p hp,Option.bind_some]) he
theorem yK {p:List Int} (h:p.length≤1000000000):dT p p=some true:=by rw [FU p p h,decide_eq_true rfl]
theorem yM {β:Type} {e:β→List Int} {l:List β} (h:∀ x∈l,U8s (e x)):U8s (kL e l):=U8s.le.app (U8s.flat h)
theorem yI {β:Type} {e:β→List Int} {l:List β} (h:∀ x,1≤(e x).length) (hu:∀ x∈l,U8s (e x)) (hl:(kL e l).length≤1000000000):cd {p:=kL e l,bad:=false} ((kL e l).length:Int)=some ((l.length:Int),{p:=(l.map e).flatten,bad:=false}):=by
 have := xj e h l
 refine Cg l.length _ ?_ omA (U8s.flat hu)
 unfold kL
 rw [List.length_append]; omega
theorem qH {α:Type} {l:List α} {i:Nat} (hi:i<l.length):l.take i++[l[i]]=l.take (i+1):=(List.take_succ_eq_append_getElem hi).symm
theorem qK {α:Type} (l:List α) {i:Nat} (x:α) (hi:i≤1000000):room (l.take i) [x]=true:=gC (by rw [List.length_take]; omega)
theorem Hk (x:aw):1≤(qc x).length:=by simp only [qc,List.length_append,dz,idB]; omega
theorem DA {l:List aw} (h:∀ x∈l,iM x) (hn:l.length≤1000):ir (some {l:=l})=some (kL qc l):=by
 have hl:=eU (l:=l) (e:=qc) (m:=2000) fun x hx=>Ch (h x hx)
 simp only [ir,jj,Option.bind_some]
 refine Db omA omA (fun i hi=>?_) fun w=>?_
 ·exact ⟨_,Jm (h _ (List.getElem_mem hi)).ok,fun w=>by simp only [jq,gf hi,cond_true,bD hi,Option.bind_some]⟩
 ·simp only [jq,zo,cond_false,dF,Option.bind_some,bG,Option.map_some]
theorem Ed {l:List aw} (h:∀ x∈l,iM x) (hn:l.length≤100):(kL qc l).length≤300000:=by
 have hl:=eU (l:=l) (e:=qc) (m:=2000) fun x hx=>Ch (h x hx)
 unfold kL
 rw [List.length_append,dz]; omega
theorem Ip {l:List aw} (h:uN l) (hn:l.length≤100) (hc:∀ x∈l,np x=x):rr (kL qc l)=some ({l:=l},0):=by
 obtain ⟨hr,_,hg⟩:=h
 have hlen:=Ed hg hn
 have hu:∀ x∈l,U8s (qc x):=fun x hx=>(RD.hold (hg x hx)).1
 have hU:=U8s.flat hu
 have hL:(l.map qc).flatten.length≤1000000000:=by unfold kL at hlen; rw [List.length_append] at hlen; omega
 have e1:=yI Hk hu (show (kL qc l).length≤1000000000 by omega)
 have e2:=RD.range (body:=lM ((l.length:Int),{p:=(l.map qc).flatten,bad:=false})) l qc (fun r i=>(r,({l:=l.take i}:bN),(i:Int))) (Sum.inl ({p:=[],bad:=false},({l:=l}:bN))) [] (by rwa [List.append_nil]) (by rwa [List.append_nil]) (fun i hi q hq hql=>?_) (by simp only [lM,zo,cond_false,bG,Option.map_some,List.take_length])
 ·rw [List.append_nil] at e2
  have e2:bA _ (({p:=(l.map qc).flatten,bad:=false}:ag),({l:=[]}:bN),(0:Int))=_:=e2
  simp only [rr,iX,tL,eB,eS,cond_false,Option.bind_some,e1,e2]
  rw [nq]
  simp only [qs,eK,eS,Option.bind_some,Bool.not_false,cond_true,DA hg omA,yK (show (kL qc l).length≤1000000000 by omega)]
  rfl
 ·have hm:=List.getElem_mem hi
  have k1:=(RD.step (RD.hold (hg _ hm)) hq hql).1
  rw [hc _ hm] at k1
  have hgo:nT ({l:=l.take i}:bN) (l[i],{p:=q,bad:=false}) (i:Int) ()=some (Sum.inl (({p:=q,bad:=false}:ag),({l:=l.take (i+1)}:bN),((i+1:Nat):Int))):=by
   simp only [nT,dm (qK l l[i] (show i≤1000000 by omega)),cm (show i≤4294967295 by omega),qH hi]
  simp only [lM,gf hi,cond_true,k1,Option.bind_some]
  by_cases hi0:i=0
  ·rw [decide_eq_false (show ¬ (i:Int)>(0:Int) by omega),cond_false,nq,hgo]
  ·have h1:i - 1<(l.take i).length:=by rw [List.length_take]; omega
   have h2:=hr.lt (show i - 1<l.length by omega) hi omA
   have h3:=(CX (hg _ (List.getElem_mem (show i - 1<l.length by omega))).id (hg _ hm).id).2 h2
   rw [decide_eq_true (show (i:Int)>(0:Int) by omega),cond_true,yZ hi0 omA,bD h1,Option.bind_some,List.getElem_take,yn,Option.bind_some,decide_eq_false omA,cond_false,nq,hgo]
def rO (x:aZ):List Int:=leB 8 x.cV.toNat++(leB 8 x.seq.toNat++uD x.r)
def xY (x:aZ):Prop:=isU 8 x.cV∧isU 8 x.seq∧tc x.r∧tg x.r=x.r
theorem HC (x:aZ):1≤(rO x).length:=by simp only [rO,List.length_append,dz]; omega
theorem FI {x:aZ} (h:xY x):U8s (rO x):=U8s.le.app (U8s.le.app (RD.zd h.2.2.1).1)
theorem Dm {l:List aZ} (h:∀ x∈l,xY x) (hn:l.length≤25):(kL rO l).length≤20000000:=by
 have hl:=eU (l:=l) (e:=rO) (m:=700016) fun x hx=>by
  have := AX (h x hx).2.2.1
  simp only [rO,List.length_append,dz]; omega
 unfold kL
 rw [List.length_append,dz]; omega
theorem Gy {l:List aZ} (h:∀ x∈l,xY x) (hn:l.length≤25):gy (some {l:=l})=some (kL rO l):=by
 have hl:=Dm h hn
 unfold kL at hl
 rw [List.length_append] at hl
 simp only [gy,kb,Option.bind_some]
 refine Db omA omA (fun i hi=>?_) fun w=>?_
 ·have hx:=h _ (List.getElem_mem hi)
  exact ⟨_,(WR.n8 hx.1.1).bind ((WR.n8 hx.2.1.1).bind (Ca hx.2.2.1.ok)),fun w=>by simp only [iI,gf hi,cond_true,bD hi,Option.bind_some,Option.bind_assoc]⟩
 ·simp only [iI,zo,cond_false,dF,Option.bind_some,bG,Option.map_some]
theorem Ko {l:List aZ} (hr:gh l) (h:∀ x∈l,xY x) (h0:GK l) (hn:l.length≤25):oX (kL rO l)=some ({l:=l},0):=by
 have hlen:=Dm h hn
 have hu:∀ x∈l,U8s (rO x):=fun x hx=>FI (h x hx)
 have hU:=U8s.flat hu
 have hL:(l.map rO).flatten.length≤1000000000:=by unfold kL at hlen; rw [List.length_append] at hlen; omega
 have e1:=yI HC hu (show (kL rO l).length≤1000000000 by omega)
 have e2:=RD.range (body:=jY ((l.length:Int),{p:=(l.map rO).flatten,bad:=false})) l rO (fun r i=>(r,({l:=l.take i}:bE),(i:Int))) (Sum.inl ({p:=[],bad:=false},({l:=l}:bE))) [] (by rwa [List.append_nil]) (by rwa [List.append_nil]) (fun i hi q hq hql=>?_) (by simp only [jY,zo,cond_false,bG,Option.map_some,List.take_length])
 ·rw [List.append_nil] at e2
  have e2:bA _ (({p:=(l.map rO).flatten,bad:=false}:ag),({l:=[]}:bE),(0:Int))=_:=e2
  simp only [oX,iX,qF,eB,eS,cond_false,Option.bind_some,e1,e2]
  rw [nq]
  simp only [oy,eK,eS,Option.bind_some,Bool.not_false,cond_true,Gy h hn,yK (show (kL rO l).length≤1000000000 by omega)]
  rfl
 ·have hm:=List.getElem_mem hi
  have hx:=h _ hm
  unfold rO at hq hql ⊢
  rw [List.append_assoc,List.append_assoc] at hq hql ⊢
  obtain ⟨k1,hq,hql⟩:=RD.step (RD.n8 hx.1) hq hql
  obtain ⟨k2,hq,hql⟩:=RD.step (RD.n8 hx.2.1) hq hql
  have k3:=(RD.step (RD.zd hx.2.2.1) hq hql).1
  rw [hx.2.2.2] at k3
  have hgo:∀ a b,mr ({l:=l.take i}:bE) (l[i].cV,a) (l[i].seq,b) (l[i].r,{p:=q,bad:=false}) (i:Int) ()=some (Sum.inl (({p:=q,bad:=false}:ag),({l:=l.take (i+1)}:bE),((i+1:Nat):Int))):=fun a b=>by
   simp only [mr]
   rw [dm (qK l _ (show i≤1000000 by omega)),cm (show i≤4294967295 by omega)]
   rw [show ({cV:=l[i].cV,seq:=l[i].seq,r:=l[i].r}:aZ)=l[i] from rfl,qH hi]
  have hz:(l[i].seq==(0:Int))=false:=by have:=(h0 _ hm).2; simp; omega
  simp only [jY,gf hi,cond_true,k1,k2,k3,Option.bind_some,hz,cond_false]
  by_cases hi0:i=0
  ·rw [decide_eq_false (show ¬ (i:Int)>(0:Int) by omega),cond_false,nq,hgo]
  ·have h1:i - 1<(l.take i).length:=by rw [List.length_take]; omega
   have h2:=gh.lt hr (show i - 1<l.length by omega) hi omA
   rw [decide_eq_true (show (i:Int)>(0:Int) by omega),cond_true,yZ hi0 omA,bD h1,Option.bind_some,List.getElem_take,decide_eq_false omA,cond_false,nq,hgo]
def sJ (x:dj):List Int :=
 leB 8 x.r.ID.toNat++(leB 1 (un x.r.dn)++(leB 1 (un x.r.To)++(rkB x.r.Lo++(rkB x.r.Hi++(leB 8 x.r.Authority.toNat++(leB 4 (un x.r.cx)++(leB 8 x.from_.toNat++leB 8 x.to_.toNat)))))))
def Gc (x:dj):Prop:=Cd x.r∧AY x.r=x.r∧isU 8 x.from_∧isU 8 x.to_
theorem DV (x:dj):(sJ x).length=54:=by simp only [sJ,List.length_append,dz,vz]
theorem Gw (x:dj):U8s (sJ x):=U8s.le.app (U8s.le.app (U8s.le.app (U8s.le.app (U8s.le.app (U8s.le.app (U8s.le.app (U8s.le.app U8s.le)))))))
theorem Bh {l:List dj} (hn:l.length≤100):(kL sJ l).length≤5404:=by
 have hl:=eU (l:=l) (e:=sJ) (m:=54) fun x _=>by rw [DV]; omega
 unfold kL
 rw [List.length_append,dz]; omega
theorem DY {b:cg} (h:∀ x∈b.l,Gc x) (hn:b.l.length≤100):ig (some b)=some (kL sJ b.l):=by
 have hl:=Bh hn
 unfold kL at hl
 rw [List.length_append] at hl
 simp only [ig,lN,Option.bind_some]
 refine Db omA omA (fun i hi=>?_) fun w=>?_
 ·obtain ⟨⟨h1,_,_,h4,h5,h6,_⟩,_,h8,h9⟩:=h _ (List.getElem_mem hi)
  exact ⟨_,(WR.n8 h1.1).bind ((WR.u1 _).bind ((WR.u1 _).bind ((WR.eW h4).bind ((WR.eW h5).bind ((WR.n8 h6.1).bind ((WR.u4 _).bind ((WR.n8 h8.1).bind (WR.n8 h9.1)))))))),fun w=>by simp only [jr,gf hi,cond_true,bD hi,Option.bind_some,Option.bind_assoc]⟩
 ·simp only [jr,zo,cond_false,dF,Option.bind_some,bG,Option.map_some]
theorem RD.eW {x:Nat} (h:isF x):RD (fun r=>aE r (8:Int)) (rkB x) (aO x):=by
 obtain ⟨h0,h1⟩:=tE h
 exact RD.n8 (v:=aO x) ⟨h0,by rw [pw8]; omega⟩
theorem Jo {b:cg} (h:∀ x∈b.l,Gc x) (hn:b.l.length≤100):qn (kL sJ b.l)=some (b,0):=by
 have hlen:=Bh hn
 have hu:∀ x∈b.l,U8s (sJ x):=fun x _=>Gw x
 have hU:=U8s.flat hu
 have hL:(b.l.map sJ).flatten.length≤1000000000:=by unfold kL at hlen; rw [List.length_append] at hlen; omega
 have e1:=yI (fun x=>by rw [DV]; omega) hu (show (kL sJ b.l).length≤1000000000 by omega)
 have e2:=RD.range (body:=kW ((b.l.length:Int),{p:=(b.l.map sJ).flatten,bad:=false})) b.l sJ (fun r i=>(r,({l:=b.l.take i}:cg),(i:Int))) ({p:=[],bad:=false},b) [] (by rwa [List.append_nil]) (by rwa [List.append_nil]) (fun i hi q hq hql=>?_) (by simp only [kW,zo,cond_false,bG,Option.map_some,List.take_length])
 ·rw [List.append_nil] at e2
  have e2:bA _ (({p:=(b.l.map sJ).flatten,bad:=false}:ag),({l:=[]}:cg),(0:Int))=_:=e2
  simp only [qn,iX,sn,eB,eS,cond_false,Option.bind_some,e1,e2]
  simp only [pA,eK,eS,Option.bind_some,Bool.not_false,cond_true,DY h hn,yK (show (kL sJ b.l).length≤1000000000 by omega)]
  rfl
 ·obtain ⟨⟨h1,h2,h3,h4,h5,h6,h7⟩,hc,h8,h9⟩:=h _ (List.getElem_mem hi)
  unfold sJ at hq hql ⊢
  simp only [List.append_assoc] at hq hql ⊢
  obtain ⟨k1,hq,hql⟩:=RD.step (RD.n8 h1) hq hql
  obtain ⟨k2,hq,hql⟩:=RD.step (RD.u1 h2) hq hql
  obtain ⟨k3,hq,hql⟩:=RD.step (RD.u1 h3) hq hql
  obtain ⟨k4,hq,hql⟩:=RD.step (RD.eW h4) hq hql
  obtain ⟨k5,hq,hql⟩:=RD.step (RD.eW h5) hq hql
  obtain ⟨k6,hq,hql⟩:=RD.step (RD.n8 h6) hq hql
  obtain ⟨k7,hq,hql⟩:=RD.step (RD.u4 h7) hq hql
  obtain ⟨k8,hq,hql⟩:=RD.step (RD.n8 h8) hq hql
  have k9:=(RD.step (RD.n8 h9) hq hql).1
  have c1:({ID:=b.l[i].r.ID,dn:=b.l[i].r.dn,To:=b.l[i].r.To,Lo:=cf b.l[i].r.Lo,Hi:=cf b.l[i].r.Hi,Authority:=b.l[i].r.Authority,cx:=b.l[i].r.cx}:dV)=b.l[i].r:=hc
  simp only [kW,gf hi,cond_true,k1,k2,k3,k4,k5,k6,k7,k8,k9,xm h4,xm h5,Option.bind_some,wA deA h2,wA deA h3,wA deA h7,c1]
  rw [dm (qK b.l _ (show i≤1000000 by omega)),cm (show i≤4294967295 by omega)]
  rw [show ({r:=b.l[i].r,from_:=b.l[i].from_,to_:=b.l[i].to_}:dj)=b.l[i] from rfl,qH hi]
def yC (v:bf):List Int:=leB 8 v.ae.toNat++(leB 8 v.Index.toNat++(flB v.Del++byB v.Val))
def rv (x:bW):List Int:=leB 8 x.eW.toNat++kL yC x.l
def MK (v:bf):Prop:=isU 8 v.ae∧isU 8 v.Index∧v.Val.length≤256∧U8s v.Val
theorem Inv.mem {n:Nat} {l:List bW} {m:List aP} (h:Inv n l m) {x:bW} (hx:x∈l) {v:bf} (hv:v∈x.l):∃ y∈m,aO y.At=x.eW∧ver y=v:=by
 obtain ⟨y,hy,e⟩:=List.mem_map.1 (h.pm.mem_iff.1 (wK.2 ⟨x,hx,rfl,hv⟩:(x.eW,v)∈ma l))
 exact ⟨y,hy,congrArg Prod.fst e,congrArg Prod.snd e⟩
theorem Inv.vn {n:Nat} {l:List bW} {m:List aP} (h:Inv n l m) {x:bW} (hx:x∈l) {v:bf} (hv:v∈x.l):MK v:=by
 obtain ⟨y,hy,_,rfl⟩:=h.mem hx hv
 obtain ⟨_,⟨g1,g2,g3,g4⟩,g5,g6⟩:=h.xg y hy
 exact ⟨⟨g1,by rw [pw8]; exact g2⟩,⟨g3,by rw [pw8]; exact g4⟩,g5,g6⟩
theorem Inv.at {n:Nat} {l:List bW} {m:List aP} (h:Inv n l m) {x:bW} (hx:x∈l):∃ f,isF f∧aO f=x.eW:=by
 obtain ⟨v,hv⟩:=List.exists_mem_of_ne_nil _ (h.ne x hx)
 obtain ⟨y,hy,e,_⟩:=h.mem hx hv
 exact ⟨_,(h.xg y hy).1,e⟩
theorem Inv.eW {n:Nat} {l:List bW} {m:List aP} (h:Inv n l m) {x:bW} (hx:x∈l):isU 8 x.eW:=by
 obtain ⟨f,h1,h2⟩:=h.at hx
 have := tE h1
 rw [← h2]
 exact ⟨this.1,by rw [pw8]; exact this.2⟩
theorem DH:∀ (l:List bW),(∀ x∈l,∀ v∈x.l,v.Val.length≤256)→(l.map rv).flatten.length≤l.length*12+(ma l).length*277
 | [],_=>Nat.zero_le _
 | x::l,h=>by
  have h1:=DH l fun y hy=>h y (by simp [hy])
  have h2:=eU (l:=x.l) (e:=yC) (m:=277) fun v hv=>by
   have := h x (by simp) v hv
   simp only [yC,flB,byB,List.length_append,dz]; omega
  have h3:(ma (x::l)).length=x.l.length+(ma l).length:=by unfold ma; rw [List.flatMap_cons,List.length_append,List.length_map]
  rw [List.map_cons,List.flatten_cons,List.length_append,List.length_cons,h3]
  have h4:(rv x).length=12+(x.l.map yC).flatten.length:=by simp only [rv,kL,List.length_append,dz]; omega
  omega
theorem CG {n:Nat} {l:List bW} {m:List aP} (h:Inv n l m) (hn:n≤3200):(kL rv l).length≤1000000:=by
 have h1:=DH l fun x hx v hv=>(h.vn hx hv).2.2.1
 have h2:=h.pm.length_eq
 rw [List.length_map] at h2
 have h3:=h.AT
 have h4:=h.Ab.len
 unfold kL
 rw [List.length_append,dz]; omega
theorem Ma {v:bf} (h:MK v):U8s (yC v):=U8s.le.app (U8s.le.app (U8s.app U8s.le (U8s.le.app h.2.2.2)))
theorem FO {n:Nat} {l:List bW} {m:List aP} (h:Inv n l m) {x:bW} (hx:x∈l):U8s (rv x):=U8s.le.app (yM fun v hv=>Ma (h.vn hx hv))
theorem Ir (v:bf):1≤(yC v).length:=by simp only [yC,List.length_append,dz]; omega
theorem Hz (x:bW):1≤(rv x).length:=by simp only [rv,List.length_append,dz]; omega
theorem Kl {n:Nat} {l:List bW} {m:List aP} (h:Inv n l m) (hn:n≤3200):kj (some {rows:=l})=some (kL rv l):=by
 have hl:=CG h hn
 have hl2:=h.Ab.len
 unfold kL at hl
 rw [List.length_append] at hl
 simp only [kj,oT,Option.bind_some]
 refine Dz omA omA (fun i hi p hp=>?_) fun w=>?_
 ·have hm:=List.getElem_mem hi
  have hv:=h.Ab.vl _ hm
  unfold rv kL at hp ⊢
  obtain ⟨k1,hp⟩:=(WR.n8 (h.eW hm).1).step hp
  obtain ⟨k2,hp⟩:=(WR.cnt l[i].l.length omA).step hp
  have k3:=WR.loop (body:=iA l[i] (i:Int)) (fun w=>(Sum.inl (w,IntKind.i64.wrap ((i:Int)+(1:Int))):(ao×Int) ⊕ List Int)) (l[i].l.map yC) (by rw [List.length_map]; omega) (fun j hj=>by
   rw [List.length_map] at hj
   have g:=h.vn hm (List.getElem_mem hj)
   refine ⟨_,by rw [List.getElem_map]; exact (WR.n8 g.1.1).bind ((WR.n8 g.2.1.1).bind ((WR.flag _).bind (WR.bytes _ (by have:=g.2.2.1; omega)))),fun w=>?_⟩
   simp only [iA,gf hj,cond_true,bD hj,Option.bind_some,Option.bind_assoc]) (fun w=>by simp [iA,bG]) _ hp
  simp only [jN,gf hi,cond_true,bD hi,Option.bind_some,k1,k2,k3]
  simp only [List.append_assoc]
 ·simp only [jN,zo,cond_false,dF,Option.bind_some,bG,Option.map_some]
theorem Ks {x:Nat} (hx:isF x):∃ f,eP (aO x)=some f∧isF f∧aO f=aO x:=⟨_,xm hx,Mk x hx,AQ hx⟩
theorem Fj {n:Nat} {l:List bW} {m:List aP} (h:Inv n l m) (hn:n≤10000):nj (some {rows:=l})=some true:=by
 have hl:=h.Ab.len
 refine dW (fun k=>(k:Int)) l.length true (fun k hk=>?_) (by simp [kI,bG])
 have hm:=List.getElem_mem hk
 have hxl:=h.Ab.vl _ hm
 obtain ⟨f0,g1,g2⟩:=h.at hm
 obtain ⟨f,b1,b2,b3⟩:=Ks g1
 rw [g2] at b1 b3
 have hne:(((l[k].l).length:Int)==(0:Int))=false:=by simpa using h.ne _ hm
 have hrk:(aO f !=l[k].eW)=false:=by rw [b3]; simp
 have hJ:kF l[k] (k:Int) ()=some (Sum.inl (((k+1:Nat):Int))):=by
  unfold kF
  refine dW (fun j=>(j:Int)) (l[k].l).length _ (fun j hj=>?_) (by simp [kB,bG,cm (show k≤4294967295 by omega)])
  have hvm:=List.getElem_mem hj
  have hdel:l[k].l[j].Del=true→l[k].l[j].Val=[]:=fun hd=>by
   obtain ⟨y,hy,_,ey⟩:=h.mem hm hvm
   have := h.cl y hy
   rw [← ey] at hd ⊢
   exact this hd
  have tail:(bif l[k].l[j].Del then (bif (decide (((l[k].l[j].Val).length:Int)>(0:Int))) then (none:Option (Int ⊕ (Int ⊕ Bool))) else some (Sum.inl (((j+1:Nat):Int)))) else some (Sum.inl (((j+1:Nat):Int))))=some (Sum.inl (((j+1:Nat):Int))):=by
   cases hd:l[k].l[j].Del with
   | false=>rfl
   | true=>rw [hdel hd]; rfl
  simp only [kB,gf hj,cond_true,bD hj,Option.bind_some,cm (show j≤4294967295 by omega),bG,Option.map_some]
  by_cases h0:j=0
  ·rw [decide_eq_false (show ¬ (j:Int)>(0:Int) by omega),cond_false]
   exact tail
  ·have hj1:j - 1<l[k].l.length:=by omega
   have ha:=Ib (h.Ab.vg _ hm _ (List.getElem_mem hj1)) (h.Ab.vg _ hm _ hvm)
   rw [decide_eq_true ((h.vr _ hm).lt hj1 hj omA)] at ha
   rw [decide_eq_true (show (j:Int)>(0:Int) by omega),cond_true,yZ h0 omA,bD hj1,Option.bind_some,ha,Option.bind_some]
   simp only [Bool.not_true,cond_false]
   exact tail
 simp only [kI,gf hk,cond_true,bD hk,Option.bind_some,hne,cond_false,b1,mJ b2,hrk,bG,Option.map_some]
 by_cases h0:k=0
 ·rw [decide_eq_false (show ¬ (k:Int)>(0:Int) by omega),cond_false,nq,hJ]
 ·have hk1:k - 1<l.length:=by omega
  have hlt:l[k - 1].eW<l[k].eW:=h.rJ.lt hk1 hk omA
  rw [decide_eq_true (show (k:Int)>(0:Int) by omega),cond_true,yZ h0 omA,bD hk1,Option.bind_some,decide_eq_false omA,cond_false,nq,hJ]
theorem Aj (p:List Int):eB {p:=p,bad:=false}=some (p.length:Int):=rfl
theorem Kc {n:Nat} {l:List bW} {m:List aP} (h:Inv n l m) (hn:n≤3200):sZ (kL rv l)=some ({rows:=l},0):=by
 have hlen:=CG h hn
 have hl2:=h.Ab.len
 have hu:∀ x∈l,U8s (rv x):=fun x hx=>FO h hx
 have hU:=U8s.flat hu
 have hL:(l.map rv).flatten.length≤1000000000:=by unfold kL at hlen; rw [List.length_append] at hlen; omega
 have e1:=yI Hz hu (show (kL rv l).length≤1000000000 by omega)
 have e2:=RD.range (body:=mQ ((l.length:Int),{p:=(l.map rv).flatten,bad:=false})) l rv (fun r i=>(r,({rows:=l.take i}:cn),(i:Int))) ({p:=[],bad:=false},({rows:=l}:cn)) [] (by rwa [List.append_nil]) (by rwa [List.append_nil]) (fun i hi q hq hql=>?_) (by simp only [mQ,zo,cond_false,bG,Option.map_some,List.take_length])
 ·rw [List.append_nil] at e2
  have e2:bA _ (({p:=(l.map rv).flatten,bad:=false}:ag),({rows:=[]}:cn),(0:Int))=_:=e2
  simp only [sZ,iX,uY,Aj,Option.bind_some,e1,e2,rC,eK,eS,Bool.not_false,cond_true,List.length_nil,Fj h omA]
  rfl
 ·have hm:=List.getElem_mem hi
  have hv:=h.Ab.vl _ hm
  unfold rv kL at hq hql ⊢
  simp only [List.append_assoc] at hq hql ⊢
  obtain ⟨k1,hq,hql⟩:=RD.step (RD.n8 (h.eW hm)) hq hql
  have hge:=xj yC Ir l[i].l
  obtain ⟨k2,hq,hql⟩:=RD.step (RD.cnt (a:=((leB 4 l[i].l.length++((l[i].l.map yC).flatten++q)).length:Int)) l[i].l.length (by simp only [List.length_append]; omega) omA) hq hql
  have k3:=RD.range (body:=nc ((l[i].l.length:Int),{p:=(l[i].l.map yC).flatten++q,bad:=false})) l[i].l yC (fun r j=>(l[i].l.take j,r,(j:Int))) ({p:=q,bad:=false},l[i].l) q hq hql (fun j hj q hq hql=>by
   have g:=h.vn hm (List.getElem_mem hj)
   unfold yC at hq hql ⊢
   simp only [List.append_assoc] at hq hql ⊢
   obtain ⟨k1,hq,hql⟩:=RD.step (RD.n8 g.1) hq hql
   obtain ⟨k2,hq,hql⟩:=RD.step (RD.n8 g.2.1) hq hql
   obtain ⟨k3,hq,hql⟩:=RD.step (RD.flag _) hq hql
   have k4:=(RD.step (RD.bytes (a:=256) _ (by have:=g.2.2.1; omega) deA g.2.2.2) hq hql).1
   simp only [nc,gf hj,cond_true,k1,k2,k3,k4,Option.bind_some]
   rw [dm (qK _ _ omA),cm (show j≤4294967295 by omega)]
   rw [show ({ae:=l[i].l[j].ae,Index:=l[i].l[j].Index,Del:=l[i].l[j].Del,Val:=l[i].l[j].Val}:bf)=l[i].l[j] from rfl,qH hj]) (by simp only [nc,zo,cond_false,bG,Option.map_some,List.take_length])
  have k3:bA _ (([]:List bf),({p:=(l[i].l.map yC).flatten++q,bad:=false}:ag),(0:Int))=_:=k3
  simp only [mQ,gf hi,cond_true,k1,Aj,k2,k3,Option.bind_some,rE]
  rw [dm (qK _ _ omA),cm (show i≤4294967295 by omega)]
  rw [show ({eW:=l[i].eW,l:=l[i].l}:bW)=l[i] from rfl,qH hi]
end Go.Proofs.YtgnkkopjkgdieaaGreat
