/- A part of the proof. -/
import Derived.Test.YtgnkkopjkgdieaaGreatLaneBytesGw
import Derived.Test.YtgnkkopjkgdieaaGreatLaneBytesM
import Derived.Test.YtgnkkopjkgdieaaGreatLaneBytesP1
set_option linter.unusedVariables false
set_option linter.unusedSimpArgs false
set_option maxRecDepth 100000
namespace Go.Proofs.YtgnkkopjkgdieaaGreat
open Go Go.V
theorem KI {A:List Nat} {k:Nat} {x:Nat} (hk:k≤A.length):lL A (0:Int) (k:Int)++[x]++lL A (k:Int) (((A.length:Nat):Int))=A.take k++x::A.drop k:=by
 unfold lL
 rw [Int.toNat_natCast,Int.toNat_natCast,List.take_length,show (0:Int).toNat=0 from rfl,List.drop_zero,List.append_assoc]
 rfl
theorem DM {α:Type} {A:List α} {i j:Nat} (h1:i≤j) (h2:j≤A.length):fits A (i:Int) (j:Int)=true:=by
 unfold fits
 simp
 omega
theorem Na {A:List Nat} {m:List aP} {i:Nat} (hi:i<m.length) (hA:∀ a∈A,isF a) (hx:isF m[i].At) (hr:iF aO A) (hn:A.length≤1000000):bA (nC A m (i:Int)) (0:Int)=some ((pl aO (aO m[i].At) A:Nat):Int):=by
 have hle:=ze aO (aO m[i].At) A
 refine dW (fun j=>(j:Int)) (pl aO (aO m[i].At) A) _ (fun j hj=>?_) ?_
 ·have hjA:j<A.length:=by omega
  have h1:aO A[j]<aO m[i].At:=FG hjA hj
  simp only [nC,gh hjA,cond_true,bD hjA,bD hi,Option.bind_some,sP (hA _ (List.getElem_mem hjA)) hx,h1,decide_true,cm (show j≤4294967295 by omega)]
 ·by_cases hk:pl aO (aO m[i].At) A<A.length
  ·have h1:=Gl (s:=aO m[i].At) hr hk (Nat.le_refl _)
   have h2:¬ aO A[pl aO (aO m[i].At) A]<aO m[i].At:=by omega
   simp only [nC,gh hk,cond_true,bD hk,bD hi,Option.bind_some,sP (hA _ (List.getElem_mem hk)) hx,h2,decide_false,cond_false,bG,Option.map_some]
  ·have e:decide (((pl aO (aO m[i].At) A:Nat):Int)<((A.length:Nat):Int))=false:=by simp; omega
   simp only [nC,e,cond_false,bG,Option.map_some]
def Bv (A:List Nat) (x:Nat):List Nat:=bif hit aO (aO x) A then A else mZ aO A x
theorem MX {A:List Nat} {m:List aP} {i:Nat} (hi:i<m.length) (hA:∀ a∈A,isF a) (hx:isF m[i].At) (hn:A.length≤1000000) (hi2:i≤1000000) :
  nG A m (i:Int) ((pl aO (aO m[i].At) A:Nat):Int)=some (Sum.inl (Bv A m[i].At,((i+1:Nat):Int))):=by
 have hle:=ze aO (aO m[i].At) A
 have hins:(gd (fits A (0:Int) ((pl aO (aO m[i].At) A:Nat):Int)) (gd (room ([]:List Nat) (lL A (0:Int) ((pl aO (aO m[i].At) A:Nat):Int))) (gd (room (lL A (0:Int) ((pl aO (aO m[i].At) A:Nat):Int)) ([m[i].At])) (gd (fits A ((pl aO (aO m[i].At) A:Nat):Int) (((A).length:Nat):Int)) (gd (room ((lL A (0:Int) ((pl aO (aO m[i].At) A:Nat):Int))++([m[i].At])) (lL A ((pl aO (aO m[i].At) A:Nat):Int) (((A).length:Nat):Int))) (some (Sum.inl ((((lL A (0:Int) ((pl aO (aO m[i].At) A:Nat):Int))++([m[i].At]))++(lL A ((pl aO (aO m[i].At) A:Nat):Int) (((A).length:Nat):Int))),((i+1:Nat):Int)))))))):Option ((List Nat×Int) ⊕ List Nat))=some (Sum.inl (A.take (pl aO (aO m[i].At) A)++m[i].At::A.drop (pl aO (aO m[i].At) A),((i+1:Nat):Int))):=by
  have l1:(lL A (0:Int) ((pl aO (aO m[i].At) A:Nat):Int)).length≤1000000:=by unfold lL; simp only [List.length_drop,List.length_take]; omega
  have l2:(lL A ((pl aO (aO m[i].At) A:Nat):Int) ((A.length:Nat):Int)).length≤1000000:=by unfold lL; simp only [List.length_drop,List.length_take]; omega
  rw [dl (show fits A (0:Int) _=true from DM (i:=0) (Nat.zero_le _) hle),dl (room_le lnA),dl (room_le (by simp only [List.length_singleton]; omega)),dl (DM hle (Nat.le_refl _)),dl (room_le (by simp only [List.length_append,List.length_singleton]; omega)),KI hle]
 unfold Bv mZ pr
 cases hh:hit aO (aO m[i].At) A with
 | true =>
  obtain ⟨hk,h1,h2⟩:=my hh
  simp only [nG,gh hk,cond_true,bD hk,bD hi,Option.bind_some,rA (hA _ (List.getElem_mem hk)) hx,h1,decide_true,cm (show i≤4294967295 by omega)]
 | false =>
  simp only [cond_false]
  by_cases hk:pl aO (aO m[i].At) A<A.length
  ·have h1:¬ aO A[pl aO (aO m[i].At) A]=aO m[i].At:=fun e=>by
    have : hit aO (aO m[i].At) A=true:=by unfold hit; rw [List.getElem?_eq_getElem hk]; simpa using e
    rw [this] at hh; cases hh
   simp only [nG,gh hk,cond_true,bD hk,bD hi,Option.bind_some,rA (hA _ (List.getElem_mem hk)) hx,h1,decide_false,cond_false,cm (show i≤4294967295 by omega)]
   exact hins
  ·have e:decide (((pl aO (aO m[i].At) A:Nat):Int)<((A.length:Nat):Int))=false:=by simp; omega
   simp only [nG,e,cond_false,bD hi,Option.bind_some,cm (show i≤4294967295 by omega)]
   exact hins
theorem GS {A:List Nat} (h:iF aO A) (x:Nat):iF aO (Bv A x):=by
 unfold Bv; cases hit aO (aO x) A with
 | true=>exact h
 | false=>exact tH h x
theorem Jo {A:List Nat} (h:iF aO A) (x:Nat) (r:Int):(∃ a∈Bv A x,aO a=r)↔(∃ a∈A,aO a=r)∨aO x=r:=by
 unfold Bv
 cases hh:hit aO (aO x) A with
 | true =>
  obtain ⟨hk,h1,_⟩:=my hh
  refine ⟨.inl,fun h=>h.elim id fun e=>⟨_,List.getElem_mem hk,h1.trans e⟩⟩
 | false =>
  simp only [cond_false]
  constructor
  ·rintro ⟨a,ha,e⟩
   rcases (lx h x a).1 ha with rfl | ⟨h1,_⟩
   ·exact .inr e
   ·exact .inl ⟨a,h1,e⟩
  ·rintro (⟨a,ha,e⟩ | e)
   ·by_cases h2:aO a=aO x
    ·exact ⟨x,(lx h x x).2 (.inl rfl),h2 ▸ e⟩
    ·exact ⟨a,(lx h x a).2 (.inr ⟨ha,h2⟩),e⟩
   ·exact ⟨x,(lx h x x).2 (.inl rfl),e⟩
theorem Md {A:List Nat} (h:iF aO A) {x:Nat} (hA:∀ a∈A,isF a) (hx:isF x):∀ a∈Bv A x,isF a:=by
 unfold Bv
 cases hit aO (aO x) A with
 | true=>exact hA
 | false =>
  intro a ha
  rcases (lx h x a).1 ha with rfl | ⟨h1,_⟩
  ·exact hx
  ·exact hA a h1
theorem IS {A:List Nat} (h:iF aO A) (x:Nat):(Bv A x).length≤A.length+1:=by
 unfold Bv
 cases hit aO (aO x) A with
 | true=>simp only [cond_true]; omega
 | false=>exact wS h x
structure Ats (m:List aP) (A:List Nat):Prop where
 rJ : iF aO A
 f : ∀ a∈A,isF a
 mem : ∀ r,(∃ a∈A,aO a=r)↔∃ y∈m,aO y.At=r
 len : A.length≤m.length
theorem LW {m:List aP} (hx:∀ y∈m,isF y.At) (hn:m.length≤1000000):∃ A,vi m=some A∧Ats m A:=by
 unfold vi
 refine qW (body:=pC m) (Inv:=fun s=>∃ i:Nat,s.2=(i:Int)∧i≤m.length∧Ats (m.take i) s.1) (m:=fun s=>(m.length - s.2).toNat) (Q:=fun A=>Ats m A) (fun s hs=>?_) ⟨0,rfl,Nat.zero_le _,⟨tX,fun a h=>(by cases h),fun r=>siA,by simp⟩⟩
 obtain ⟨A,z⟩:=s
 obtain ⟨i,rfl,hi,hA⟩:=hs
 dsimp only at hA
 have hAl:=hA.len
 rw [List.length_take] at hAl
 by_cases hil:i<m.length
 ·have hmi:=List.getElem_mem hil
  left
  simp only [pC,gh hil,cond_true,Na hil hA.f (hx _ hmi) hA.rJ omA,Option.bind_some,MX hil hA.f (hx _ hmi) omA omA]
  refine ⟨_,rfl,⟨i+1,rfl,by omega,⟨GS hA.rJ _,Md hA.rJ hA.f (hx _ hmi),fun r=>?_,?_⟩⟩,by dsimp only; omega⟩
  ·rw [Jo hA.rJ,hA.mem,List.take_succ_eq_append_getElem hil]
   simp only [List.mem_append,List.mem_singleton]
   constructor
   ·rintro (⟨y,hy,e⟩ | e)
    ·exact ⟨y,.inl hy,e⟩
    ·exact ⟨_,.inr rfl,e⟩
   ·rintro ⟨y,hy | rfl,e⟩
    ·exact .inl ⟨y,hy,e⟩
    ·exact .inr e
  ·have := IS hA.rJ m[i].At
   dsimp only
   rw [List.length_take]; omega
 ·have e1:i=m.length:=by omega
  subst e1
  right
  rw [List.take_length] at hA
  exact ⟨A,by simp [pC,bG],hA⟩
theorem Ig {n:Nat} {l:List bW} {m:List aP} {A:List Nat} (h:Inv n l m) (hA:Ats m A):l.map rk=A.map aO:=by
 refine Es (k:=id) (List.pairwise_map.2 h.rJ) (List.pairwise_map.2 hA.rJ) fun r=>?_
 rw [List.mem_map,List.mem_map]
 have : (∃ a∈A,aO a=r)↔∃ y∈m,aO y.At=r:=hA.mem r
 rw [this]
 constructor
 ·rintro ⟨x,hx,e⟩
  obtain ⟨v,hv⟩:=List.exists_mem_of_ne_nil _ (h.ne x hx)
  obtain ⟨y,hy,e2⟩:=List.mem_map.1 (h.pm.mem_iff.1 (wq.2 ⟨x,hx,rfl,hv⟩:(x.eW,v)∈mx l))
  exact ⟨y,hy,(congrArg Prod.fst e2).trans e⟩
 ·rintro ⟨y,hy,e⟩
  obtain ⟨x,hx,h1,_⟩:=wq.1 (h.pm.mem_iff.2 (List.mem_map.2 ⟨y,hy,rfl⟩))
  exact ⟨x,hx,h1.trans e⟩
theorem KZ:Inv 0 [] []:=⟨tX,fun x h=>(by cases h),fun x h=>(by cases h),List.Perm.refl _,fun x h=>(by cases h),fun x h=>(by cases h),by simp,by simp⟩
theorem Inv.up {n k:Nat} {l:List bW} {m:List aP} (h:Inv n l m) (hk:n≤k):Inv k l m:=⟨h.rJ,h.ne,h.vr,h.pm,h.xg,h.cl,h.nd,Nat.le_trans h.AA hk⟩
theorem Ci {q:Nat→Bool} {i n:Nat} (h:i≤n):∃ t,(List.range n).filter q=(List.range i).filter q++t∧((∀ j,i≤j→j<n→q j=false)→t=[]):=by
 obtain ⟨k,rfl⟩:=Nat.exists_eq_add_of_le h
 refine ⟨((List.range k).map (i + ·)).filter q,by rw [List.range_add,List.filter_append],fun hq=>List.filter_eq_nil_iff.2 fun j hj=>?_⟩
 obtain ⟨x,hx,rfl⟩:=List.mem_map.1 hj
 rw [hq (i+x) omA (by have:=List.mem_range.1 hx; omega)]
 simp
theorem BZ {β:Type} {body:List β×Int→Option ((List β×Int) ⊕ List β)} (n p M:Nat) (q:Nat→Bool) (f:Nat→β) (stp:Nat→Bool) (hp:p≤n) (hq0:∀ j,j<p→q j=false)
  (h1 : ∀ (i:Nat),i<n→p≤i→∀ out:List β,out.length≤i→body (out,(i:Int))=some (bif stp i then .inr out else bif decide (out.length<M) then .inl (bif q i then out++[f i] else out,((i+1:Nat):Int)) else .inr out))
  (hs : ∀ i,i<n→stp i=true→∀ j,i≤j→j<n→q j=false)
  (h2 : ∀ out:List β,body (out,(n:Int))=some (.inr out)):bA body ([],(p:Int))=some ((((List.range n).filter q).take M).map f):=by
 obtain ⟨r,h3,h4⟩:=qW (body:=body) (Inv:=fun s=>∃ i:Nat,s.2=(i:Int)∧i≤n∧p≤i∧s.1=(((List.range i).filter q).take M).map f) (m:=fun s=>(n - s.2).toNat) (Q:=fun r=>r=(((List.range n).filter q).take M).map f) (fun s hs'=>by
  obtain ⟨out,z⟩:=s
  obtain ⟨i,rfl,hi,hpi,ho⟩:=hs'
  dsimp only at ho
  subst ho
  have hlen:((((List.range i).filter q).take M).map f).length≤i:=by
   have := List.length_filter_le q (List.range i)
   rw [List.length_range] at this
   rw [List.length_map,List.length_take]; omega
  by_cases hin:i<n
  ·rw [h1 i hin hpi _ hlen]
   cases hst:stp i with
   | true =>
    right
    obtain ⟨t,ht,ht0⟩:=Ci (q:=q) hi
    exact ⟨_,rfl,by rw [ht,ht0 (hs i hin hst),List.append_nil]⟩
   | false =>
    by_cases hM:((((List.range i).filter q).take M).map f).length<M
    ·left
     rw [cond_false,decide_eq_true hM,cond_true]
     refine ⟨_,rfl,⟨i+1,rfl,by omega,by omega,?_⟩,by dsimp only; omega⟩
     have hl:((List.range i).filter q).length<M:=by
      rw [List.length_map,List.length_take] at hM; omega
     dsimp only
     rw [List.range_succ,List.filter_append,List.take_of_length_le (show ((List.range i).filter q).length≤M by omega)]
     cases hqi:q i with
     | true =>
      have e:[i].filter q=[i]:=by simp [hqi]
      rw [e,List.take_of_length_le (by rw [List.length_append,List.length_singleton]; omega),List.map_append]; rfl
     | false =>
      have e:[i].filter q=[]:=by simp [hqi]
      rw [e,List.append_nil,List.take_of_length_le omA]; rfl
    ·right
     rw [cond_false,decide_eq_false hM,cond_false]
     refine ⟨_,rfl,?_⟩
     obtain ⟨t,ht,_⟩:=Ci (q:=q) hi
     rw [ht,List.take_append_of_le_length]
     rw [List.length_map,List.length_take] at hM; omega
  ·have e:i=n:=by omega
   subst e
   exact .inr ⟨_,h2 _,rfl⟩) (s:=(([]:List β),(p:Int))) ⟨p,rfl,hp,Nat.le_refl _,by
    have : (List.range p).filter q=[]:=List.filter_eq_nil_iff.2 fun j hj=>by rw [hq0 j (List.mem_range.1 hj)]; simp
    rw [this]; simp⟩
 rw [h3,h4]
theorem JS {l:List bW} (hr:iF rk l) {x:bW} (hx:x∈l):ql l x.eW=x.l:=by
 unfold ql
 rw [show jK rk x.eW l=some x from (nk hr).2 ⟨hx,rfl⟩]
theorem Gn {x:Nat} (hx:isF x):∃ f,eP (aO x)=some f∧isF f∧aO f=aO x:=by
 cases hn:pX x with
 | false=>exact ⟨x,Ck hx hn,hx,rfl⟩
 | true =>
  have e:aO x=((18446744073709551615:Nat):Int):=by unfold aO; rw [hn]; rfl
  refine ⟨9223372036854775807,?_,by unfold isF; decide,?_⟩
  ·rw [e,back_eq deA]; rfl
  ·rw [e]; decide
theorem Hp {a lo hi:Nat} (ha:isF a) (h1:isF lo) (h2:isF hi):mq a lo hi=some (decide (aO lo≤aO a)&&decide (aO a≤aO hi)):=by
 unfold mq
 rw [sP ha h1,sP h2 ha]
 by_cases c1:aO a<aO lo
 ·have c2:¬ aO lo≤aO a:=by omega
  simp [c1,c2]
 ·have c2:aO lo≤aO a:=by omega
  by_cases c3:aO hi<aO a
  ·have c4:¬ aO a≤aO hi:=by omega
   simp [c1,c2,c3,c4]
  ·have c4:aO a≤aO hi:=by omega
   simp [c1,c2,c3,c4]
theorem Ff {a b:List bP} (hl:a.length=b.length) (hn:a.length≤1000000) (h:∀ i (ha:i<a.length) (hb:i<b.length),isF a[i].At∧isF b[i].At∧aO a[i].At=aO b[i].At∧a[i].Val=b[i].Val):jm a b=some true:=by
 have e:(((a.length:Nat):Int) !=((b.length:Nat):Int))=false:=by simp [hl]
 unfold jm
 rw [e,cond_false]
 refine dW (fun i=>(i:Int)) a.length true (fun i hi=>?_) (by simp [ie,bG])
 have hb:i<b.length:=by omega
 obtain ⟨f1,f2,f3,f4⟩:=h i hi hb
 simp only [ie,gh hi,cond_true,bD hi,bD hb,Option.bind_some,rA f1 f2,f3,decide_true,Bool.not_true,cond_false,f4,sr,cm (show i≤4294967295 by omega)]
noncomputable def Dg (m:List aP) (A:List Nat) (e:Int) (i:Nat):cC:=(lc m ((A[i]?).getD 0) e).getD {Has:=false,Val:=[]}
theorem zn {n:Nat} {l:List bW} {m:List aP} (h:Inv n l m) (hn:n≤10000) {lo hi:Nat} (hlo:isF lo) (hhi:isF hi) (e most:Int) :
  ∃ P Q,ib (some {rows:=l}) lo hi e most=some P∧oV m lo hi e most=some Q∧jm P Q=some true:=by
 have hm:=h.AA
 have g:=h.Ab
 have hln:=g.len
 obtain ⟨A,hA,gA⟩:=LW (fun y hy=>(h.xg y hy).1) (show m.length≤1000000 by omega)
 have hra:=Ig h gA
 have hll:l.length=A.length:=by have:=congrArg List.length hra; simpa using this
 have hrank:∀ i (h1:i<l.length) (h2:i<A.length),l[i].eW=aO A[i]:=fun i h1 h2=>by
  have := congrArg (fun t=>t[i]?) hra
  simp only [List.getElem?_map,List.getElem?_eq_getElem h1,List.getElem?_eq_getElem h2,Option.map_some] at this
  exact some_inj this
 have hgot:∀ i (h1:i<l.length) (h2:i<A.length),lc m A[i] e=some (Dg m A e i)∧rT l[i].l e=some (Dg m A e i):=fun i h1 h2=>by
  have hF:=gA.f _ (List.getElem_mem h2)
  obtain ⟨o,q1,_,q3⟩:=uU h hn hF e
  have hm1:=List.getElem_mem h1
  have hrow:ql l (aO A[i])=l[i].l:=by rw [← hrank i h1 h2]; exact JS h.rJ hm1
  rw [hrow] at q1
  obtain ⟨p,r1,r2⟩:=sx e (g.vr _ hm1) (g.vg _ hm1) (by have:=g.vl _ hm1; omega) (fun v hv=>by
   have := (h.Mf (r:=l[i].eW) (by rw [JS h.rJ hm1]; exact hv)).2.1; omega)
  have hop:o=p:=FC (g.vr _ hm1) (List.Perm.refl _) q1 r1
  subst hop
  have hgi:Dg m A e i=xW o:=by unfold Dg; rw [List.getElem?_eq_getElem h2,Option.getD_some,q3,Option.getD_some]
  rw [hgi]; exact ⟨q3,r2⟩
 let q:Nat→Bool:=fun i=>(Dg m A e i).Has&&(decide (aO lo≤aO ((A[i]?).getD 0))&&decide (aO ((A[i]?).getD 0)≤aO hi))
 let fS:Nat→bP:=fun i=>{At:=(eP (aO ((A[i]?).getD 0))).getD 0,Val:=(Dg m A e i).Val}
 let fR:Nat→bP:=fun i=>{At:=(A[i]?).getD 0,Val:=(Dg m A e i).Val}
 have hR:bA (od A most m e lo hi) ([],(0:Int))=some ((((List.range A.length).filter q).take most.toNat).map fR):=by
  refine BZ A.length 0 most.toNat q fR (fun _=>false) (Nat.zero_le _) (fun j h=>by omega) (fun i hi' _ out ho=>?_) (fun i _ h=>by cases h) (fun out=>by simp [od,bG])
  have hF:=gA.f _ (List.getElem_mem hi')
  have e0:(A[i]?).getD 0=A[i]:=by rw [List.getElem?_eq_getElem hi',Option.getD_some]
  have em:decide (((out.length:Nat):Int)<most)=decide (out.length<most.toNat):=by
   rw [Bool.eq_iff_iff]; simp only [decide_eq_true_eq]; omega
  simp only [od,gh hi',cond_true,em,cond_false,bD hi',Option.bind_some,(hgot i omA hi').1,Hp hF hlo hhi,cm (show i≤4294967295 by omega),q,fR,e0]
  cases decide (out.length<most.toNat) with
  | false=>simp [bG]
  | true =>
   simp only [cond_true]
   cases (Dg m A e i).Has with
   | false=>simp
   | true =>
    simp only [cond_true,Bool.true_and]
    cases decide (aO lo≤aO A[i])&&decide (aO A[i]≤aO hi) with
    | false=>rfl
    | true =>
     simp only [cond_true]
     rw [dl (gC omA)]
 have hS:bA (jJ {rows:=l} hi most e) ([],((pl rk (aO lo) l:Nat):Int))=some ((((List.range A.length).filter q).take most.toNat).map fS):=by
  refine BZ A.length (pl rk (aO lo) l) most.toNat q fS (fun i=>!(decide (aO ((A[i]?).getD 0)≤aO hi))) (by rw [← hll]; exact ze _ _ _) (fun j hj=>?_) (fun i hi' hpi out ho=>?_) (fun i hi' hst j hij hj=>?_) (fun out=>by simp [jJ,bG,hll])
  ·have hjl:j<l.length:=Nat.lt_of_lt_of_le hj (ze _ _ _)
   have h1:rk l[j]<aO lo:=FG hjl hj
   have e0:(A[j]?).getD 0=A[j]'omA:=by rw [List.getElem?_eq_getElem omA,Option.getD_some]
   have h2:¬ aO lo≤aO (A[j]'omA):=by rw [← hrank j hjl omA]; exact Int.not_le.2 h1
   simp only [q,e0,decide_eq_false h2,Bool.false_and,Bool.and_false]
  ·have hil:i<l.length:=by omega
   have hF:=gA.f _ (List.getElem_mem hi')
   have e0:(A[i]?).getD 0=A[i]:=by rw [List.getElem?_eq_getElem hi',Option.getD_some]
   have em:decide (((out.length:Nat):Int)<most)=decide (out.length<most.toNat):=by
    rw [Bool.eq_iff_iff]; simp only [decide_eq_true_eq]; omega
   obtain ⟨f,b1,b2,b3⟩:=Gn hF
   simp only [jJ,gh hil,cond_true,em,bD hil,Option.bind_some,mN hhi,hrank i hil hi',(hgot i hil hi').2,b1,cm (show i≤4294967295 by omega),q,fS,e0,Option.getD_some]
   have h1:aO lo≤aO A[i]:=by rw [← hrank i hil hi']; exact Gl (s:=aO lo) h.rJ hil hpi
   by_cases h2:aO A[i]≤aO hi
   ·simp only [decide_eq_true h1,decide_eq_true h2,cond_true,Bool.not_true,cond_false,Bool.and_true]
    cases decide (out.length<most.toNat) with
    | false=>simp [bG]
    | true =>
     simp only [cond_true]
     cases (Dg m A e i).Has with
     | false=>simp
     | true =>
      simp only [cond_true]
      rw [dl (gC omA)]
   ·simp only [decide_eq_false h2,cond_false,Bool.not_false,cond_true,bG,Option.map_some]
  ·have e0:(A[i]?).getD 0=A[i]:=by rw [List.getElem?_eq_getElem hi',Option.getD_some]
   have e1:(A[j]?).getD 0=A[j]:=by rw [List.getElem?_eq_getElem hj,Option.getD_some]
   rw [e0] at hst
   have h2:¬ aO A[i]≤aO hi:=by simpa using hst
   have h3:¬ aO A[j]≤aO hi:=by
    rcases Nat.eq_or_lt_of_le hij with hq | hq
    ·subst hq; exact h2
    ·have := gA.rJ.lt hi' hj hq; omega
   simp only [q,e1,decide_eq_false h3,Bool.and_false]
 have hlen:(((List.range A.length).filter q).take most.toNat).length≤1000000:=by
  have := List.length_filter_le q (List.range A.length)
  rw [List.length_range] at this
  have := gA.len
  rw [List.length_take]; omega
 refine ⟨_,_,?_,?_,Ff (a:=(((List.range A.length).filter q).take most.toNat).map fS) (b:=(((List.range A.length).filter q).take most.toNat).map fR) (by rw [List.length_map,List.length_map]) (by rw [List.length_map]; exact hlen) fun i ha hb=>?_⟩
 ·simp only [ib,mN hlo,Option.bind_some,zE h.rJ (show l.length≤1000000 by omega),hS]
 ·simp only [oV,hA,Option.bind_some,hR]
 ·rw [List.getElem_map,List.getElem_map]
  rw [List.length_map] at ha
  have hmem:=List.getElem_mem ha
  generalize (((List.range A.length).filter q).take most.toNat)[i]=j at hmem ⊢
  have hj:j<A.length:=List.mem_range.1 (List.mem_filter.1 (List.mem_of_mem_take hmem)).1
  have hF:=gA.f _ (List.getElem_mem hj)
  obtain ⟨f,b1,b2,b3⟩:=Gn hF
  have e1:(A[j]?).getD 0=A[j]:=by rw [List.getElem?_eq_getElem hj,Option.getD_some]
  simp only [fS,fR,e1,b1,Option.getD_some]
  exact ⟨b2,hF,b3,trivial⟩
def gf (l:List aZ):Prop:=l.Pairwise fun a b=>a.cV<b.cV
def zM (s:Int) (x:aZ):Bool:=decide (x.cV<s)
theorem gf.lt {l:List aZ} (h:gf l) {a b:Nat} (ha:a<l.length) (hb:b<l.length) (hab:a<b):l[a].cV<l[b].cV:=List.pairwise_iff_getElem.1 h a b ha hb hab
theorem gf.ahd {l:List aZ} (h:gf l) (s:Int):Ahd (zM s) l:=fun a b ha hb hab hp=>by
 have := h.lt ha hb hab
 simp only [zM,decide_eq_true_eq] at hp ⊢
 omega
theorem BJ (a b:Int):eM a b=some (if a<b then -1 else if a>b then 1 else 0):=by
 have h1:(a !=a)=false:=by simp
 have h2:(b !=b)=false:=by simp
 simp only [eM,lf,Option.bind_some,h1,h2,cond_false]
 by_cases h:a<b
 ·simp [h]
 ·by_cases h':a>b
  ·simp [h,h']
  ·simp [h,h']
def jn (s:Int) (l:List aZ):Nat:=lb (zM s) l
def uA (s:Int) (l:List aZ):Bool:=match l[jn s l]? with | some x=>x.cV==s | none=>false
theorem zq {l:List aZ} (h:gf l) (hn:l.length≤1000000) (s:Int):gy (some {l:=l}) s=some (((jn s l:Nat):Int),uA s l):=by
 have hs:bA (hH {l:=l} s) (((l.length:Nat):Int),(0:Int))=some ((lb (zM s) l:Nat):Int):=by
  refine uB (R:=Int) l (zM s) omA (h.ahd s) (fun i j k hk hij hke hj=>?_) (fun i j hij=>?_)
  ·have e1:decide ((i:Int)<(j:Int))=true:=by simpa using hij
   have e2:=yx (i:=i) (j:=j) omA
   rw [← hke] at e2
   simp only [hH,e1,cond_true,e2,bD hk,Option.bind_some,iJ,BJ]
   have e3:IntKind.i64.wrap ((k:Int)+(1:Int))=((k+1:Nat):Int):=wrap_add (a:=k) (b:=1) omA
   by_cases hl:l[k].cV<s
   ·simp [zM,hl,e3]
   ·have : ¬ (if l[k].cV>s then (1:Int) else 0)<0:=by split <;> omega
    simp [zM,hl,this]
  ·have e1:decide ((i:Int)<(j:Int))=false:=by simpa using hij
   simp only [hH,e1,cond_false,bG,Option.map_some]
 simp only [gy,hs,Option.bind_some,lI]
 rw [show lb (zM s) l=jn s l from rfl]
 unfold uA
 by_cases hk:jn s l<l.length
 ·have e1:decide (((jn s l:Nat):Int)<(l.length:Int))=true:=by simpa using hk
  rw [e1,cond_true,bD hk,Option.bind_some]
  simp only [iJ,BJ,Option.bind_some,List.getElem?_eq_getElem hk]
  by_cases h1:l[jn s l].cV<s
  ·have h2:¬ l[jn s l].cV=s:=by omega
   simp [h1,h2]
  ·by_cases h2:l[jn s l].cV>s
   ·have h3:¬ l[jn s l].cV=s:=by omega
    simp [h1,h2,h3]
   ·have h3:l[jn s l].cV=s:=by omega
    simp [h1,h2,h3]
 ·have e1:decide (((jn s l:Nat):Int)<(l.length:Int))=false:=by simpa using hk
  rw [e1,cond_false,List.getElem?_eq_none omA]
  rfl
theorem JZ (s:Int) (l:List aZ):jn s l≤l.length:=Ce _ _
theorem Gh {s:Int} {l:List aZ} {a:Nat} (h:a<l.length) (hp:a<jn s l):l[a].cV<s:=by
 have := Jc (p:=zM s) (l:=l) hp
 simpa [zM] using this
theorem FE {s:Int} {l:List aZ} (hr:gf l) {a:Nat} (h:a<l.length) (hp:jn s l≤a):s≤l[a].cV:=by
 have hpl:jn s l<l.length:=by omega
 have h1:zM s l[jn s l]=false:=It (p:=zM s) (l:=l) hpl
 have h2:s≤l[jn s l].cV:=by simpa [zM] using h1
 rcases Nat.eq_or_lt_of_le hp with e | e
 ·subst e; exact h2
 ·have := hr.lt hpl h e
  omega
theorem Ay {S R:Type} (x:S) (f:S→Option R):hQ (some (Sum.inl x)) f=f x:=rfl
def ij (s:Int) (l:List aZ):Option aZ:=bif uA s l then l[jn s l]? else none
theorem tN {s:Int} {l:List aZ} (h:uA s l=true):∃ hk:jn s l<l.length,l[jn s l].cV=s∧ij s l=some l[jn s l]:=by
 unfold ij
 rw [h,cond_true]
 unfold uA at h
 cases e:l[jn s l]? with
 | none=>rw [e] at h; cases h
 | some x =>
  rw [e] at h
  obtain ⟨hk,hx⟩:=List.getElem?_eq_some_iff.1 e
  exact ⟨hk,by rw [hx]; exact eq_of_beq h,by rw [hx]⟩
theorem lY {s:Int} {l:List aZ} (hr:gf l) {x:aZ}:ij s l=some x↔x∈l∧x.cV=s:=by
 constructor
 ·intro h
  cases hh:uA s l with
  | false=>simp [ij,hh] at h
  | true =>
   obtain ⟨hk,h1,h2⟩:=tN hh
   rw [h2] at h
   cases h
   exact ⟨List.getElem_mem hk,h1⟩
 ·rintro ⟨hx,hs⟩
  obtain ⟨a,ha,rfl⟩:=List.mem_iff_getElem.1 hx
  have h1:jn s l≤a:=by
   rcases Nat.lt_or_ge a (jn s l) with h | h
   ·have := Gh ha h; omega
   ·exact h
  have hk:jn s l<l.length:=by omega
  have h2:a=jn s l:=by
   rcases Nat.eq_or_lt_of_le h1 with h | h
   ·exact h.symm
   ·have h3:=hr.lt hk ha h
    have h4:=FE hr hk (Nat.le_refl (jn s l))
    omega
  subst h2
  have hh:uA s l=true:=by
   unfold uA
   rw [List.getElem?_eq_getElem hk]
   simpa using hs
  unfold ij
  rw [hh,cond_true,List.getElem?_eq_getElem hk]
theorem uv {s:Int} {l:List aZ} (hr:gf l):ij s l=none↔∀ x∈l,x.cV≠s:=by
 constructor
 ·intro h x hx hs
  rw [(lY hr).2 ⟨hx,hs⟩] at h; cases h
 ·intro h
  cases e:ij s l with
  | none=>rfl
  | some x=>exact absurd ((lY hr).1 e).2 (h x ((lY hr).1 e).1)
def qd (s q:Int) (r:bB):aZ:={cV:=s,seq:=q,r:=r}
def vp (s:Int) (l:List aZ):Nat:=bif uA s l then jn s l+1 else jn s l
def oY (l:List aZ) (x:aZ):List aZ:=l.take (jn x.cV l)++x::l.drop (vp x.cV l)
theorem Ct {s:Int} {l:List aZ}:∀ x∈l.take (jn s l),x.cV<s:=by
 intro x hx
 obtain ⟨a,ha,rfl⟩:=List.mem_iff_getElem.1 hx
 rw [List.getElem_take]
 rw [List.length_take] at ha
 exact Gh omA omA
theorem zj {s:Int} {l:List aZ} (hr:gf l):∀ x∈l.drop (vp s l),s<x.cV:=by
 intro x hx
 obtain ⟨a,ha,rfl⟩:=List.mem_iff_getElem.1 hx
 rw [List.length_drop] at ha
 rw [List.getElem_drop]
 have hlt:vp s l+a<l.length:=by omega
 cases hh:uA s l with
 | true =>
  obtain ⟨hk,h1,h2⟩:=tN hh
  have e:vp s l=jn s l+1:=by simp [vp,hh]
  have := hr.lt hk hlt omA
  omega
 | false =>
  have e:vp s l=jn s l:=by simp [vp,hh]
  have h1:=FE (s:=s) hr hlt omA
  have h2:l[vp s l+a].cV≠s:=fun h=>by
   have : ij s l=none:=by simp [ij,hh]
   exact (uv hr).1 this _ (List.getElem_mem hlt) h
  omega
theorem sW {l:List aZ} (hr:gf l) (x:aZ):gf (oY l x):=by
 have h1:gf (l.take (jn x.cV l)):=List.Pairwise.sublist (List.take_sublist _ _) hr
 have h2:gf (l.drop (vp x.cV l)):=List.Pairwise.sublist (List.drop_sublist _ _) hr
 refine List.pairwise_append.2 ⟨h1,List.pairwise_cons.2 ⟨zj hr,h2⟩,fun a ha b hb=>?_⟩
 have h3:=Ct a ha
 rcases List.mem_cons.1 hb with rfl | hb
 ·exact h3
 ·have := zj hr b hb; omega
theorem BG {s:Int} {l:List aZ} (hr:gf l):l.filter (fun x=>x.cV !=s)=l.take (jn s l)++l.drop (vp s l):=by
 have h1:(l.take (jn s l)).filter (fun x=>x.cV !=s)=l.take (jn s l):=List.filter_eq_self.2 fun x hx=>by have:=Ct x hx; simp; omega
 have h2:(l.drop (vp s l)).filter (fun x=>x.cV !=s)=l.drop (vp s l):=List.filter_eq_self.2 fun x hx=>by have:=zj hr x hx; simp; omega
 cases hh:uA s l with
 | false =>
  have e:vp s l=jn s l:=by simp [vp,hh]
  rw [e] at h2 ⊢
  conv => lhs; rw [← List.take_append_drop (jn s l) l]
  rw [List.filter_append,h1,h2]
 | true =>
  obtain ⟨hk,h3,h4⟩:=tN hh
  have e:vp s l=jn s l+1:=by simp [vp,hh]
  rw [e] at h2 ⊢
  conv => lhs; rw [← List.take_append_drop (jn s l) l]
  rw [List.filter_append,h1,List.drop_eq_getElem_cons hk,List.filter_cons,h2]
  simp [h3]
theorem sJ {l:List aZ} (hr:gf l) (x:aZ):(oY l x).Perm (x::l.filter (fun y=>y.cV !=x.cV)):=by
 rw [BG hr]
 exact List.perm_middle
theorem AK {l:List aZ} (hr:gf l) (x:aZ):(oY l x).length≤l.length+1:=by
 rw [(sJ hr x).length_eq,List.length_cons]
 have := List.length_filter_le (fun y:aZ=>y.cV !=x.cV) l
 omega
def eR (s:Int) (l:List aZ):Int:=match ij s l with | some x=>x.seq | none=>0
theorem IL {l:List aZ} (h:gf l) (hn:l.length≤999999) (s q:Int) (r:bB) (hq:0≤q):gX (some {l:=l}) s q r =
  some (if q=0 then (1,some {l:=l}) else if eR s l≥q then (10,some {l:=l}) else (0,some {l:=oY l (qd s q r)})):=by
 unfold gX
 dsimp only
 by_cases h0:q=0
 ·subst h0; rfl
 have e0:(q==(0:Int))=false:=by simpa using h0
 rw [e0,cond_false,zq h omA,Option.bind_some,if_neg h0]
 dsimp only
 cases hh:uA s l with
 | true =>
  obtain ⟨hk,h3,h4⟩:=tN hh
  have e1:eR s l=l[jn s l].seq:=by simp [eR,h4]
  simp only [cond_true,bD hk,Option.bind_some,e1]
  by_cases h5:l[jn s l].seq≥q
  ·rw [if_pos h5,decide_eq_true h5]; rfl
  ·rw [if_neg h5,decide_eq_false h5,cond_false,Ay]
   simp only [jS,Bool.not_true,cond_false,Option.bind_some,jN,bD hk,Int.toNat_natCast,List.set_set]
   have e2:vp s l=jn s l+1:=by simp [vp,hh]
   have : l.set (jn s l) (qd s q r)=oY l (qd s q r):=by
    unfold oY
    rw [show (qd s q r).cV=s from rfl,e2,List.set_eq_take_append_cons_drop,if_pos hk]
   rw [h3,← this]; rfl
 | false =>
  have e1:eR s l=0:=by simp [eR,ij,hh]
  have h5:¬ (0:Int)≥q:=by omega
  rw [e1,if_neg h5,cond_false,Ay]
  have hle:=JZ s l
  have hok:tk l ((jn s l:Nat):Int) [({cV:=s,seq:=(0:Int),r:=ct}:aZ)]=true:=by
   simp only [tk,room,List.length_cons,List.length_nil]
   simp; omega
  have e2:vp s l=jn s l:=by simp [vp,hh]
  have hlt:(l.take (jn s l)).length=jn s l:=by rw [List.length_take]; omega
  simp only [jS,Bool.not_false,cond_true,fj,dl hok,Option.bind_some,jN,ins,Int.toNat_natCast,List.set_set]
  have hg:dC (l.take (jn s l)++([({cV:=s,seq:=(0:Int),r:=ct}:aZ)]++l.drop (jn s l))) ((jn s l:Nat):Int)=some ({cV:=s,seq:=(0:Int),r:=ct}:aZ):=by
   rw [wO,List.getElem?_append_right omA,hlt,Nat.sub_self]; rfl
  rw [hg,Option.bind_some]
  have : (l.take (jn s l)++([({cV:=s,seq:=(0:Int),r:=ct}:aZ)]++l.drop (jn s l))).set (jn s l) (qd s q r)=oY l (qd s q r):=by
   unfold oY
   rw [show (qd s q r).cV=s from rfl,e2,List.set_append_right _ _ omA,hlt,Nat.sub_self]; rfl
  rw [← this]; rfl
theorem IW {l:List aZ} (h:gf l) (hn:l.length≤1000000) (s q:Int):iO (some {l:=l}) s q =
  some (match ij s l with | none=>(ct,2) | some x=>if x.seq<q then (ct,2) else if x.seq>q then (ct,10) else (x.r,0)):=by
 unfold iO
 dsimp only
 rw [zq h hn,Option.bind_some]
 dsimp only
 cases hh:uA s l with
 | false=>simp [ij,hh]
 | true =>
  obtain ⟨hk,h3,h4⟩:=tN hh
  simp only [h4,Bool.not_true,cond_false,bD hk,Option.bind_some]
  by_cases h5:l[jn s l].seq<q
  ·simp [h5]
  ·by_cases h6:l[jn s l].seq>q
   ·simp [h5,h6]
   ·simp [h5,h6]
theorem BU {l:List aZ} (h:gf l) (hn:l.length≤1000000) (s:Int):fH (some {l:=l}) s=some (eR s l):=by
 unfold fH
 dsimp only
 rw [zq h hn,Option.bind_some]
 dsimp only
 cases hh:uA s l with
 | false=>simp [eR,ij,hh]
 | true =>
  obtain ⟨hk,h3,h4⟩:=tN hh
  simp only [eR,h4,Bool.not_true,cond_false,bD hk,Option.bind_some]
theorem EL:gf []:=List.Pairwise.nil
theorem Fp {l:List aZ} (h:gf l) (x:aZ) (s:Int):ij s (oY l x)=if s=x.cV then some x else ij s l:=by
 have hm:∀ y,y∈oY l x↔y=x∨(y∈l∧y.cV≠x.cV):=fun y=>by
  rw [(sJ h x).mem_iff,List.mem_cons,List.mem_filter]
  simp
 split
 ·rename_i e
  subst e
  exact (lY (sW h x)).2 ⟨(hm x).2 (.inl rfl),rfl⟩
 ·rename_i hne
  cases e:ij s l with
  | none =>
   refine (uv (sW h x)).2 fun y hy=>?_
   rcases (hm y).1 hy with rfl | ⟨h1,_⟩
   ·exact fun e=>hne e.symm
   ·exact (uv h).1 e y h1
  | some y =>
   obtain ⟨h1,h2⟩:=(lY h).1 e
   exact (lY (sW h x)).2 ⟨(hm y).2 (.inr ⟨h1,by rw [h2]; exact hne⟩),h2⟩
def okR (x:bB):Prop:=x.dT.length≤9223372036854775807∧x.aX.length≤9223372036854775807∧∀ l∈x.aX,l.length≤9223372036854775807∧∀ p∈l,isF p.At
theorem zg {α:Type} {body:Int→Option (Int ⊕ Bool)} (a:List α) (hn:a.length≤9223372036854775807) (h1:∀ (i:Nat) (hi:i<a.length),body (i:Int)=some (.inl (IntKind.i64.wrap ((i:Int)+(1:Int))))) (h2:body (a.length:Int)=some (.inr true)):bA body (0:Int)=some true:=by
 refine dW (fun i:Nat=>(i:Int)) a.length true (fun i hi=>?_) h2
 rw [h1 i hi]
 have : IntKind.i64.wrap ((i:Int)+(1:Int))=((i+1:Nat):Int):=by rw [wrap_i64] <;> push_cast <;> omega
 rw [this]
theorem Cu (a:List cC) (hn:a.length≤9223372036854775807):ja a a=some true:=by
 unfold ja
 have e0:(((a.length:Nat):Int) !=((a.length:Nat):Int))=false:=by simp
 rw [e0,cond_false]
 refine zg a hn (fun i hi=>?_) ?_
 ·have e1:decide ((i:Int)<(a.length:Int))=true:=by simpa using hi
  have e2:(a[i].Has==a[i].Has)=true:=by simp
  simp only [gV,e1,cond_true,bD hi,Option.bind_some,e2,sr,Bool.not_true,cond_false]
 ·simp [gV,bG]
theorem JX {a:Nat} (ha:isF a):fT a a=some true:=by rw [yH ha ha,Ew rfl]
theorem EQ (a:List bP) (hn:a.length≤9223372036854775807) (hf:∀ p∈a,isF p.At):jm a a=some true:=by
 unfold jm
 have e0:(((a.length:Nat):Int) !=((a.length:Nat):Int))=false:=by simp
 rw [e0,cond_false]
 refine zg a hn (fun i hi=>?_) ?_
 ·have e1:decide ((i:Int)<(a.length:Int))=true:=by simpa using hi
  simp only [ie,e1,cond_true,bD hi,Option.bind_some,JX (hf _ (List.getElem_mem hi)),sr,Bool.not_true,cond_false]
 ·simp [ie,bG]
theorem yl {a:bB} (h:okR a):gJ a a=some true:=by
 obtain ⟨h1,h2,h3⟩:=h
 unfold gJ
 have e0:∀ x:Int,(x !=x)=false:=fun x=>by simp
 rw [e0,e0,e0,e0,cond_false,cond_false,cond_false,cond_false,Cu _ h1,Option.bind_some,Bool.not_true,cond_false]
 refine zg a.aX h2 (fun i hi=>?_) ?_
 ·have e1:decide ((i:Int)<(a.aX.length:Int))=true:=by simpa using hi
  have g:=h3 _ (List.getElem_mem hi)
  simp only [ir,e1,cond_true,bD hi,Option.bind_some,EQ _ g.1 g.2,Bool.not_true,cond_false]
 ·simp [ir,bG]
theorem Mz {x:bB} (g:td x):okR x:=by
 obtain ⟨_,_,_,g4,g5,g6,g7⟩:=g
 exact ⟨by omega,by omega,fun l hl=>⟨by have:=(g5 l hl).1; omega,fun p hp=>((g5 l hl).2 p hp).1⟩⟩
def an (x:aZ):dg:={ab:=x.cV,Seq:=x.seq,R:=x.r}
def Rel (l:List aZ) (m:List dg):Prop:=(l.map an).Perm m
def dfl (s:Int):dg:={ab:=s,Seq:=0,R:=ct}
theorem JU (m:List dg) (hn:m.length≤1000000) (s:Int):kr m s=some ((m.find? fun a=>a.ab==s).getD (dfl s)):=by
 have key:∀ (k i:Nat),m.length - i≤k→i≤m.length→bA (mC m s) (i:Int)=some (((m.drop i).find? fun a=>a.ab==s).getD (dfl s)):=by
  intro k
  induction k with
  | zero =>
   intro i hk hi
   have e:i=m.length:=by omega
   subst e
   rw [fJ]
   simp [mC,bG,dfl]
  | succ k ih =>
   intro i hk hi
   by_cases hlt:i<m.length
   ·have e1:decide ((i:Int)<(m.length:Int))=true:=by simpa using hlt
    rw [fJ,List.drop_eq_getElem_cons hlt]
    simp only [mC,e1,cond_true,bD hlt,Option.bind_some,List.find?_cons]
    cases hb:(m[i].ab==s) with
    | true=>simp [bG]
    | false =>
     have e2:IntKind.i64.wrap ((i:Int)+(1:Int))=((i+1:Nat):Int):=wrap_add (a:=i) (b:=1) omA
     simp only [cond_false,Option.bind_some,e2]
     exact ih (i+1) omA omA
   ·have e:i=m.length:=by omega
    subst e
    rw [fJ]
    simp [mC,bG,dfl]
 have := key m.length 0 omA omA
 rw [List.drop_zero] at this
 exact this
theorem HX {l:List aZ} {m:List dg} (hr:gf l) (h:Rel l m) (s:Int):(m.find? fun a=>a.ab==s)=(ij s l).map an:=by
 cases e:ij s l with
 | none =>
  rw [Option.map_none,List.find?_eq_none]
  intro a ha
  obtain ⟨x,hx,rfl⟩:=List.mem_map.1 (h.mem_iff.2 ha)
  have := (uv hr).1 e x hx
  simpa [an] using this
 | some x =>
  obtain ⟨h1,h2⟩:=(lY hr).1 e
  have hx:an x∈m:=h.mem_iff.1 (List.mem_map_of_mem h1)
  cases e2:m.find? fun a=>a.ab==s with
  | none =>
   have := List.find?_eq_none.1 e2 _ hx
   simp [an,h2] at this
  | some a =>
   have ha:=List.mem_of_find?_eq_some e2
   have hs:a.ab=s:=by have:=List.find?_some e2; simpa using this
   obtain ⟨y,hy,rfl⟩:=List.mem_map.1 (h.mem_iff.2 ha)
   have h3:ij s l=some y:=(lY hr).2 ⟨hy,hs⟩
   rw [e] at h3
   cases h3; rfl
theorem AY {l:List aZ} {m:List dg} (hr:gf l) (h:Rel l m) (hn:l.length≤1000000) (s:Int):kr m s=some (match ij s l with | some x=>an x | none=>dfl s):=by
 rw [JU m (by rw [← h.length_eq,List.length_map]; exact hn) s,HX hr h]
 cases ij s l <;> rfl
theorem He (m:List dg) (hn:m.length≤1000000) (s:Int) (x:dg):bA (kM m s) ([x],(0:Int))=some (x::m.filter (fun a=>a.ab !=s),(0:Int)):=by
 have key:∀ (k i:Nat) (acc:List dg),m.length - i≤k→i≤m.length→acc.length≤i+1→bA (kM m s) (acc,(i:Int))=some (acc++(m.drop i).filter (fun a=>a.ab !=s),(0:Int)):=by
  intro k
  induction k with
  | zero =>
   intro i acc hk hi ha
   have e:i=m.length:=by omega
   subst e
   rw [fJ]
   simp [kM,bG]
  | succ k ih =>
   intro i acc hk hi ha
   by_cases hlt:i<m.length
   ·have e1:decide ((i:Int)<(m.length:Int))=true:=by simpa using hlt
    have e2:IntKind.i64.wrap ((i:Int)+(1:Int))=((i+1:Nat):Int):=wrap_add (a:=i) (b:=1) omA
    have e3:room acc [m[i]]=true:=room_le (by simp only [List.length_cons,List.length_nil]; omega)
    rw [fJ,List.drop_eq_getElem_cons hlt]
    simp only [kM,e1,cond_true,bD hlt,Option.bind_some,List.filter_cons,e2]
    cases hb:(m[i].ab !=s) with
    | true =>
     simp only [cond_true,dl e3,Option.bind_some,if_true]
     rw [ih (i+1) (acc++[m[i]]) omA omA (by simp only [List.length_append,List.length_cons,List.length_nil]; omega)]
     simp
    | false =>
     simp only [cond_false,Option.bind_some,Bool.false_eq_true,if_false]
     exact ih (i+1) acc omA omA omA
   ·have e:i=m.length:=by omega
    subst e
    rw [fJ]
    simp [kM,bG]
 simpa using key m.length 0 [x] omA omA siA
theorem Ka {l:List aZ} {m:List dg} (hr:gf l) (h:Rel l m) (hn:l.length≤999999) (s q:Int) (r:bB):qw m s q r =
  some (if q=0 then (m,1) else if eR s l≥q then (m,10) else (an (qd s q r)::m.filter (fun a=>a.ab !=s),0)):=by
 unfold qw
 by_cases h0:q=0
 ·subst h0; rfl
 have e0:(q==(0:Int))=false:=by simpa using h0
 have e1:(match ij s l with | some x=>an x | none=>dfl s).Seq=eR s l:=by unfold eR; cases ij s l <;> rfl
 rw [e0,cond_false,AY hr h omA,Option.bind_some,e1,if_neg h0]
 by_cases h5:eR s l≥q
 ·rw [if_pos h5,decide_eq_true h5,cond_true]
 ·rw [if_neg h5,decide_eq_false h5,cond_false]
  exact He m (by rw [← h.length_eq,List.length_map]; omega) s _
theorem BK {l:List aZ} {m:List dg} (hr:gf l) (h:Rel l m) (x:aZ):Rel (oY l x) (an x::m.filter (fun a=>a.ab !=x.cV)):=by
 unfold Rel
 refine ((sJ hr x).map an).trans ?_
 rw [List.map_cons]
 refine List.Perm.cons _ ?_
 have h2:=h.filter (fun a=>a.ab !=x.cV)
 rw [List.filter_map] at h2
 exact h2
def Hv (l:List aZ):Prop:=∀ x∈l,okR x.r∧0<x.seq
theorem DT {l:List aZ} (hr:gf l) (h:Hv l) {x:aZ} (hx:okR x.r∧0<x.seq):Hv (oY l x):=by
 intro y hy
 have := (sJ hr x).mem_iff.1 hy
 rcases List.mem_cons.1 this with rfl | h2
 ·exact hx
 ·exact h y (List.mem_filter.1 h2).1
def qc (id:Int) (x:dj):Bool:=x.r.ID==id&&x.to_==0
def ik (id e:Int) (x:dj):dj:=bif qc id x then {x with to_:=if (1:Int)>e then 1 else e} else x
theorem GI {α:Type} (f:α→α) (l:List α) (i:Nat) (h:i<l.length):((l.take i).map f++l.drop i).set i (f l[i])=(l.take (i+1)).map f++l.drop (i+1):=by
 rw [List.set_append_right _ _ (by simp; omega)]
 have e:i - ((l.take i).map f).length=0:=by simp; omega
 rw [e,List.drop_eq_getElem_cons h,List.set_cons_zero,List.take_succ_eq_append_getElem h,List.map_append,List.append_assoc]
 rfl
theorem GR {α:Type} (f:α→α) (l:List α) (i:Nat) (h:i<l.length):((l.take i).map f++l.drop i)[i]?=some l[i]:=by
 rw [List.getElem?_append_right (by simp; omega)]
 have e:i - ((l.take i).map f).length=0:=by simp; omega
 rw [e,List.getElem?_drop,Nat.add_zero,List.getElem?_eq_getElem h]
theorem Fh {α:Type} (f:α→α) (l:List α) (i:Nat) (h:i<l.length) (hf:f l[i]=l[i]):(l.take i).map f++l.drop i=(l.take (i+1)).map f++l.drop (i+1):=by
 rw [List.drop_eq_getElem_cons h,List.take_succ_eq_append_getElem h,List.map_append,List.append_assoc]
 simp only [List.map_cons,List.map_nil,hf]
 rfl
theorem AI {α:Type} (p:α→Bool) (l:List α) (i:Nat) (h:i<l.length):(l.take (i+1)).any p=((l.take i).any p||p l[i]):=by
 rw [List.take_succ_eq_append_getElem h,List.any_append]
 simp
theorem zQ (b:cg) (id e:Int) (hl:b.l.length≤1000000):gF (some b) id e=some (b.l.any (qc id),some {l:=b.l.map (ik id e)}):=by
 unfold gF
 have h:=dW (body:=gY b id e) (fun i=>({l:=(b.l.take i).map (ik id e)++b.l.drop i},(i:Int),(b.l.take i).any (qc id))) b.l.length (b.l.any (qc id),some {l:=b.l.map (ik id e)}) ?_ ?_
 ·simpa using h
 ·intro i hi
  have e1:decide ((i:Int)<(b.l.length:Int))=true:=by simpa using hi
  have e2:IntKind.i64.wrap ((i:Int)+1)=((i+1:Nat):Int):=by rw [wrap_i64] <;> omega
  simp only [gY,e1,cond_true,wO,GR _ _ _ hi,Option.bind_some,e2,AI _ _ _ hi]
  cases hh:qc id b.l[i] with
  | true =>
   have hr:ik id e b.l[i]={r:=b.l[i].r,from_:=b.l[i].from_,to_:=if (1:Int)>e then 1 else e}:=by simp [ik,hh]
   simp only [qc,Bool.and_eq_true] at hh
   rw [hh.1,hh.2,Bool.or_true,← hr,Int.toNat_natCast,GI _ _ _ hi]
   rfl
  | false =>
   have hr:ik id e b.l[i]=b.l[i]:=by simp [ik,hh]
   rw [Bool.or_false,← Fh _ _ _ hi hr]
   simp only [qc] at hh
   cases h1:(b.l[i].r.ID==id) with
   | false=>rfl
   | true =>
    rw [h1,Bool.true_and] at hh
    rw [hh]; rfl
 ·have e1:decide ((b.l.length:Int)<(b.l.length:Int))=false:=by simp
  simp only [gY,e1,cond_false,bG,Option.map_some,List.take_length,List.drop_length,List.append_nil]
theorem Fv (b:cg) (r:dV) (e:Int) (hl:b.l.length≤1000000):iZ (some b) r e=some (some {l:=b.l.map (ik r.ID e)++[{r:=r,from_:=e,to_:=0}]}):=by
 simp only [iZ,zQ b r.ID e hl,Option.bind_some]
 rw [dl (room_le (by simp; omega))]
def rD (id e:Int) (x:dj):Bool:=x.r.ID==id&&(decide (x.from_≤e)&&(x.to_==0||decide (x.to_>e)))
def JE:dV:={ID:=0,dn:=0,To:=0,Lo:=0,Hi:=0,Authority:=0,cx:=0}
def yj:Option dj→dV×Bool
 | some x=>(x.r,true)
 | none=>(JE,false)
def nN (p:dj→Bool) (l:List dj):Option dj:=l.reverse.find? p
theorem Hy (b:cg) (id e:Int) (i:Nat) (h:i<b.l.length) (hl:b.l.length≤1000000):iU b id e (i:Int)=bif rD id e b.l[i] then some (.inr (b.l[i].r,true)) else some (.inl ((i:Int) - 1)):=by
 have e1:decide ((i:Int)≥0)=true:=by simp
 have e2:IntKind.i64.wrap ((i:Int) - 1)=(i:Int) - 1:=by rw [wrap_i64] <;> omega
 simp only [iU,e1,cond_true,bD h,Option.bind_some,e2,bG,Option.map_some,rD]
 cases (b.l[i].r.ID==id) <;> cases decide (b.l[i].from_≤e) <;> cases (b.l[i].to_==0) <;> cases decide (b.l[i].to_>e) <;> rfl
theorem Hf (b:cg) (id e:Int) (hl:b.l.length≤1000000):∀ n,n≤b.l.length→bA (iU b id e) ((n:Int) - 1)=some (yj (nN (rD id e) (b.l.take n))):=by
 intro n
 induction n with
 | zero =>
  intro _
  rw [fJ]
  rfl
 | succ n ih =>
  intro hn
  have e0:((n+1:Nat):Int) - 1=(n:Int):=by omega
  rw [fJ,e0,Hy b id e n omA hl,List.take_succ_eq_append_getElem omA]
  simp only [nN,List.reverse_append,List.reverse_cons,List.reverse_nil,List.nil_append,List.singleton_append,List.find?_cons]
  cases rD id e b.l[n] with
  | true=>rfl
  | false=>exact ih omA
theorem KA (b:cg) (id e:Int) (hl:b.l.length≤1000000):pi (some b) id e=some (yj (nN (rD id e) b.l)):=by
 have e2:IntKind.i64.wrap ((b.l.length:Int) - 1)=(b.l.length:Int) - 1:=by rw [wrap_i64] <;> omega
 show bA (iU b id e) (IntKind.i64.wrap ((b.l.length:Int) - 1))=_
 rw [e2]
 have := Hf b id e hl b.l.length (Nat.le_refl _)
 rwa [List.take_length] at this
theorem BB (p:dj→Bool) (l:List dj) (x:dj):nN p (l++[x])=if p x then some x else nN p l:=by
 simp [nN,List.find?_cons]
 cases p x <;> rfl
def wm (r:dV):Prop:=r.Lo<18446744073709551616∧r.Hi<18446744073709551616
def eN (x:dj):dz:={R:=x.r,dn:=x.from_,To:=x.to_}
theorem zX (id e:Int) (he:0≤e) (x:dj):eN (ik id e x)=bif qc id x then {R:=x.r,dn:=x.from_,To:=bif e==0 then 1 else e} else eN x:=by
 unfold ik
 cases qc id x with
 | false=>rfl
 | true =>
  simp only [cond_true,eN,dz.mk.injEq,true_and]
  by_cases h:e=0
  ·subst h; rfl
  ·have h1:¬ (1:Int)>e:=by omega
   have h2:(e==0)=false:=by simpa using h
   rw [if_neg h1,h2]; rfl
theorem Aq (l:List dj) (id e:Int) (he:0≤e) (hl:l.length≤1000000):pw (l.map eN) id e=some ((l.map (ik id e)).map eN,l.any (qc id)):=by
 have key:∀ z:Int,(bif e==0 then (1:Int) else e)=z→nS (l.map eN) id z=some ((l.map (ik id e)).map eN,l.any (qc id)):=by
  intro z hz
  unfold nS
  have h:=dW (body:=kw (l.map eN) id z) (fun i=>((i:Int),((l.take i).map (ik id e)).map eN,(l.take i).any (qc id))) l.length (((l.map (ik id e)).map eN,l.any (qc id))) ?_ ?_
  ·have h0:bA (kw (l.map eN) id z) ((0:Int),[],false)=some ((l.map (ik id e)).map eN,l.any (qc id)):=by simpa using h
   rw [h0]; rfl
  ·intro i hi
   have e1:decide ((i:Int)<((l.map eN).length:Int))=true:=by simpa using hi
   have e2:IntKind.i64.wrap ((i:Int)+1)=((i+1:Nat):Int):=by rw [wrap_i64] <;> omega
   have hg:dC (l.map eN) (i:Int)=some (eN l[i]):=by rw [bD (by simpa using hi)]; simp
   have hroom:∀ y:dz,room (((l.take i).map (ik id e)).map eN) [y]=true:=fun y=>room_le (by simp; omega)
   have Dd:∀ y:dz,y=eN (ik id e l[i])→((l.take i).map (ik id e)).map eN++[y]=((l.take (i+1)).map (ik id e)).map eN:=by
    intro y hy
    rw [List.take_succ_eq_append_getElem hi,List.map_append,List.map_append,hy]
    rfl
   simp only [kw,e1,cond_true,hg,Option.bind_some,AI _ _ _ hi]
   cases hh:qc id l[i] with
   | true =>
    have hh2:=hh
    simp only [qc,Bool.and_eq_true] at hh2
    have c1:((eN l[i]).R.ID==id)=true:=hh2.1
    have c2:((eN l[i]).To==0)=true:=hh2.2
    simp only [c1,c2,cond_true,Option.bind_some,lR,e2,dl (hroom _),Bool.or_true]
    rw [Dd]
    rw [zX _ _ he,hh,← hz]; rfl
   | false =>
    have hx:eN (ik id e l[i])=eN l[i]:=by rw [zX _ _ he,hh]; rfl
    have hs:=Dd (eN l[i]) hx.symm
    have fin:lR (((l.take i).map (ik id e)).map eN) (eN l[i]) (i:Int) ((l.take i).any (qc id),(eN l[i]).To)=some (Sum.inl (((i+1:Nat):Int),((l.take (i+1)).map (ik id e)).map eN,(l.take i).any (qc id))):=by
     simp only [lR,e2,dl (hroom _)]
     rw [← hs]
    rw [Bool.or_false]
    cases h1:((eN l[i]).R.ID==id) with
    | false=>exact fin
    | true =>
     have h2:((eN l[i]).To==0)=false:=by
      have : qc id l[i]=(((eN l[i]).R.ID==id)&&((eN l[i]).To==0)):=rfl
      rw [this,h1,Bool.true_and] at hh
      exact hh
     rw [h2]; exact fin
  ·have e1:decide ((l.length:Int)<((l.map eN).length:Int))=false:=by simp
   simp only [kw,e1,cond_false,bG,Option.map_some,List.take_length]
 unfold pw
 cases h:(e==0) with
 | true=>exact key 1 (by rw [h]; rfl)
 | false=>exact key e (by rw [h]; rfl)
theorem ET (l:List dj) (id e:Int) (hl:l.length≤1000000):wK (l.map eN) id e=some (yj (nN (rD id e) l)):=by
 unfold wK
 let st:Nat→Int×Int×Int×Nat×Nat×Int×Int×Int×Bool:=fun i =>
  let r:=yj (nN (rD id e) (l.take i))
  (r.1.ID, r.1.dn,r.1.To,r.1.Lo,r.1.Hi,r.1.Authority,r.1.cx,(i:Int),r.2)
 let fin:Int×Int×Int×Nat×Nat×Int×Int×Bool :=
  let r:=yj (nN (rD id e) l)
  (r.1.ID, r.1.dn,r.1.To,r.1.Lo,r.1.Hi,r.1.Authority,r.1.cx,r.2)
 have h:=dW (body:=oI (l.map eN) id e) st l.length fin ?_ ?_
 ·have h0:bA (oI (l.map eN) id e) ((0:Int),(0:Int),(0:Int),(0:Nat),(0:Nat),(0:Int),(0:Int),(0:Int),false)=some fin:=h
  rw [h0]; rfl
 ·intro i hi
  have e1:decide ((i:Int)<((l.map eN).length:Int))=true:=by simpa using hi
  have e2:IntKind.i64.wrap ((i:Int)+1)=((i+1:Nat):Int):=by rw [wrap_i64] <;> omega
  have hg:dC (l.map eN) (i:Int)=some (eN l[i]):=by rw [bD (by simpa using hi)]; simp
  simp only [st,oI,e1,cond_true,hg,Option.bind_some,e2,List.take_succ_eq_append_getElem hi,BB]
  have ht:rD id e l[i]=(((eN l[i]).R.ID==id)&&(decide ((eN l[i]).dn≤e)&&(((eN l[i]).To==0)||decide (e<(eN l[i]).To)))):=rfl
  rw [ht]
  cases ((eN l[i]).R.ID==id) <;> cases decide ((eN l[i]).dn≤e) <;> cases ((eN l[i]).To==0) <;> cases decide (e<(eN l[i]).To) <;> rfl
 ·have e1:decide ((l.length:Int)<((l.map eN).length:Int))=false:=by simp
  simp only [st,fin,oI,e1,cond_false,bG,Option.map_some,List.take_length]
theorem Hw {l:List dj} (h:∀ x∈l,wm x.r) (p:dj→Bool):wm (yj (nN p l)).1:=by
 cases hf:nN p l with
 | none=>exact ⟨by decide,by decide⟩
 | some x=>exact h x (List.mem_reverse.1 (List.mem_of_find?_eq_some hf))
theorem JQ (e:Int):fY (some {l:=[]}) e=some false:=by
 have h:bA (gH {l:=[]} e) (0:Int)=some (-1):=by rw [fJ]; rfl
 simp only [fY,h,Option.bind_some]; rfl
theorem JO:oZ=some true:=by
 unfold oZ
 simp only [vd,uT,tG,qG,sn,Option.bind_some]
 unfold df
 unfold kl ln
 simp only [JQ]
 rfl
def zt (n:Nat) (v:List Int):List Int:=(List.range n).map fun i=>(v[i]?).getD 0
theorem KG (n:Nat) (v:List Int):cpy (List.replicate n (0:Int)) v=zt n v:=by
 unfold cpy zt
 rw [List.length_replicate]
 apply List.ext_getElem
 ·simp only [List.length_append,List.length_take,List.length_drop,List.length_replicate,List.length_map,List.length_range]; omega
 ·intro i h1 h2
  rw [List.getElem_map,List.getElem_range]
  rw [List.length_map,List.length_range] at h2
  by_cases hv:i<v.length
  ·rw [List.getElem_append_left lnA,List.getElem_take,List.getElem?_eq_getElem hv,Option.getD_some]
  ·rw [List.getElem_append_right lnA,List.getElem_drop,List.getElem_replicate,List.getElem?_eq_none omA,Option.getD_none]
theorem Me (w:bK) {n:Int} (hn:n≤1000000):wR w n=some {w with Val:=if w.Del then [] else zt n.toNat w.Val}:=by
 have e0:(if (0:Int)>n then (0:Int) else n)=((n.toNat:Nat):Int):=by split <;> omega
 unfold wR
 rw [e0,dl (by simp [HV]; omega),Int.toNat_natCast,KG]
 cases hd:w.Del <;> simp [uo,hd]
theorem GH (w:bK) {n:Int} (hn:n≤1000000):uR w n=some {w with Val:=if w.Del then [] else zt n.toNat w.Val}:=by
 unfold uR
 cases hd:w.Del with
 | true =>
  have h:bA (lX n w) ([],(0:Int))=some []:=by
   rw [fJ]
   simp only [lX,hd,Bool.not_true,cond_false]
   cases decide ((0:Int)<n) <;> rfl
  rw [h,Option.bind_some]
  simp only [rq,hd,if_true]
 | false =>
  have h:=dW (body:=lX n w) (fun i=>(zt i w.Val,(i:Int))) n.toNat (zt n.toNat w.Val) (fun i hi=>by
   have e1:decide ((i:Int)<n)=true:=by simp; omega
   have e2:(bif decide ((i:Int)<((w.Val.length:Nat):Int)) then (dC w.Val (i:Int)).bind fun x=>some x else some (0:Int))=some ((w.Val[i]?).getD 0):=by
    by_cases hv:i<w.Val.length
    ·rw [gh hv,cond_true,bD hv,Option.bind_some,List.getElem?_eq_getElem hv,Option.getD_some]
    ·have : decide ((i:Int)<((w.Val.length:Nat):Int))=false:=by simp; omega
     rw [this,cond_false,List.getElem?_eq_none omA,Option.getD_none]
   have hl:(zt i w.Val).length=i:=by simp [zt]
   simp only [lX,e1,cond_true,hd,Bool.not_false,e2,Option.bind_some,tt,cm (show i≤4294967295 by omega)]
   rw [dl (gC omA)]
   simp [zt,List.range_succ]) (by
   have e1:decide (((n.toNat:Nat):Int)<n)=false:=by simp; omega
   simp only [lX,e1,cond_false,bG,Option.map_some])
  have h0:zt 0 w.Val=[]:=rfl
  rw [h0] at h
  rw [show (((0:Nat)):Int)=(0:Int) from rfl] at h
  rw [h,Option.bind_some]
  simp only [rq,hd,Bool.false_eq_true,if_false]
theorem EN {a b:bK} (ha:a.At<18446744073709551616) (hb:b.At<18446744073709551616) (h1:aO a.At=aO b.At) (h2:a.Del=b.Del) (h3:a.Val=b.Val):iC [a] [b]=some true:=by
 have e:((([a]:List bK).length:Int) !=(([b]:List bK).length:Int))=false:=by simp
 unfold iC
 rw [e,cond_false]
 refine dW (fun i=>(i:Int)) 1 true (fun i hi=>?_) (by simp [gS,bG])
 have : i=0:=by omega
 subst this
 have d0:decide (((0:Nat):Int)<((([a]:List bK).length:Nat):Int))=true:=by simp
 have g0:dC [a] (((0:Nat)):Int)=some a:=rfl
 have g1:dC [b] (((0:Nat)):Int)=some b:=rfl
 simp only [gS,d0,cond_true,g0,g1,Option.bind_some,rA ha hb,h1,decide_true,Bool.not_true,cond_false,h2,h3,BEq.rfl,sr,cm (i:=0) omA]
theorem U8s.tail {a b:List Int} (h:U8s (a++b)):U8s b:=fun y hy=>h y (List.mem_append_right _ hy)
theorem RD.step {α:Type} {f:ag→Option (α×ag)} {b q:List Int} {x:α} (h:RD f b x) (hu:U8s (b++q)) (hl:(b++q).length≤1000000000):f {p:=b++q,bad:=false}=some (x,{p:=q,bad:=false})∧U8s q∧q.length≤1000000000:=by
 rw [List.length_append] at hl
 exact ⟨h.2 q hu.tail hl,hu.tail,by omega⟩
theorem WR.step {f:ao→Option ao} {b p q:List Int} (h:WR f b) (hp:p.length+(b++q).length≤1000000000):f {p:=p}=some {p:=p++b}∧(p++b).length+q.length≤1000000000:=by
 rw [List.length_append] at hp
 exact ⟨h p omA,by rw [List.length_append]; omega⟩
theorem Iv {β:Type} (l:List β) (e:β→List Int) {i:Nat} (hi:i<l.length):((l.drop i).map e).flatten=e l[i]++((l.drop (i+1)).map e).flatten∧(l.map e).flatten=((l.take i).map e).flatten++(e l[i]++((l.drop (i+1)).map e).flatten):=by
 have h:((l.drop i).map e).flatten=e l[i]++((l.drop (i+1)).map e).flatten:=by rw [List.drop_eq_getElem_cons hi,List.map_cons,List.flatten_cons]
 exact ⟨h,by rw [← h,← List.flatten_append,← List.map_append,List.take_append_drop]⟩
theorem RD.range {β S R:Type} {body:S→Option (S ⊕ R)} (l:List β) (e:β→List Int) (st:ag→Nat→S) (fin:R) (q:List Int) (hu:U8s ((l.map e).flatten++q)) (hl:((l.map e).flatten++q).length≤1000000000)
  (hb : ∀ i (hi:i<l.length) q',U8s (e l[i]++q')→(e l[i]++q').length≤1000000000→body (st {p:=e l[i]++q',bad:=false} i)=some (Sum.inl (st {p:=q',bad:=false} (i+1))))
  (he : body (st {p:=q,bad:=false} l.length)=some (Sum.inr fin)):bA body (st {p:=(l.map e).flatten++q,bad:=false} 0)=some fin:=by
 have h:=dW (body:=body) (fun i=>st {p:=((l.drop i).map e).flatten++q,bad:=false} i) l.length fin (fun i hi=>?_) (by simpa using he)
 ·simpa using h
 ·obtain ⟨h1,h2⟩:=Iv l e hi
  rw [h2,List.append_assoc,List.append_assoc] at hu hl
  rw [h1,List.append_assoc]
  exact hb i hi _ hu.tail (by rw [List.length_append] at hl; omega)
theorem xf {β:Type} (e:β→List Int) (h:∀ x,1≤(e x).length):∀ l:List β,l.length≤(l.map e).flatten.length
 | []=>Nat.le_refl _
 | x::l=>by
  have := xf e h l
  have := h x
  rw [List.map_cons,List.flatten_cons,List.length_append,List.length_cons]; omega
theorem nm {S R:Type} (x:S) (f:S→Option R):hQ (some (Sum.inl x)) f=f x:=rfl
theorem yM {i:Nat} (h:i≠0) (h2:i≤4294967296):IntKind.i64.wrap ((i:Int) - (1:Int))=((i - 1:Nat):Int):=sY (a:=i) (b:=1) omA h2
def kK {β:Type} (e:β→List Int) (l:List β):List Int:=leB 4 l.length++(l.map e).flatten
theorem DL {β:Type} {body:ao×Int→Option ((ao×Int) ⊕ List Int)} {l:List β} {e:β→List Int} (hl:(l.map e).flatten.length≤900000000) (hn:l.length≤1000000)
  (hb : ∀ i (hi:i<l.length) (p:List Int),p.length+(e l[i]).length≤1000000000→body ({p:=p},(i:Int))=some (Sum.inl (({p:=p++e l[i]}:ao),IntKind.i64.wrap ((i:Int)+(1:Int)))))
  (he : ∀ w,body (w,(l.length:Int))=some (Sum.inr w.p)):((ax {p:=[]} (IntKind.u64.wrap (l.length:Int)) (4:Int)).bind fun t=>bA body (t,(0:Int)))=some (kK e l):=by
 have h1:ax {p:=[]} (IntKind.u64.wrap (l.length:Int)) (4:Int)=some {p:=[]++leB 4 l.length}:=WR.cnt l.length omA [] (by simp only [List.length_nil,dA]; omega)
 rw [h1,Option.bind_some,List.nil_append]
 exact WR.HN (body:=body) (fun w=>w.p) (l.map e) lnA (fun i hi p hp=>by
  rw [List.length_map] at hi
  rw [List.getElem_map] at hp ⊢; exact hb i hi p hp) (fun w=>by rw [List.length_map]; exact he w) _ (by rw [dA]; omega)
theorem CB {β:Type} {body:ao×Int→Option ((ao×Int) ⊕ List Int)} {l:List β} {e:β→List Int} (hl:(l.map e).flatten.length≤900000000) (hn:l.length≤1000000)
  (hb : ∀ i (hi:i<l.length),∃ F:ao→Option ao,WR F (e l[i])∧∀ w,body (w,(i:Int))=(F w).bind fun t=>some (Sum.inl (t,IntKind.i64.wrap ((i:Int)+(1:Int)))))
  (he : ∀ w,body (w,(l.length:Int))=some (Sum.inr w.p)):((ax {p:=[]} (IntKind.u64.wrap (l.length:Int)) (4:Int)).bind fun t=>bA body (t,(0:Int)))=some (kK e l) :=
 DL hl hn (fun i hi p hp=>by
  obtain ⟨F,h1,h2⟩:=hb i hi
  rw [h2,h1 p hp,Option.bind_some]) he
theorem yT {p:List Int} (h:p.length≤1000000000):dU p p=some true:=by rw [FF p p h,decide_eq_true rfl]
theorem zf {β:Type} {e:β→List Int} {l:List β} (h:∀ x∈l,U8s (e x)):U8s (kK e l):=U8s.le.app (U8s.flat h)
theorem zb {β:Type} {e:β→List Int} {l:List β} (h:∀ x,1≤(e x).length) (hu:∀ x∈l,U8s (e x)) (hl:(kK e l).length≤1000000000):cd {p:=kK e l,bad:=false} ((kK e l).length:Int)=some ((l.length:Int),{p:=(l.map e).flatten,bad:=false}):=by
 have := xf e h l
 refine Cb l.length _ ?_ omA (U8s.flat hu)
 unfold kK
 rw [List.length_append]; omega
theorem qF {α:Type} {l:List α} {i:Nat} (hi:i<l.length):l.take i++[l[i]]=l.take (i+1):=(List.take_succ_eq_append_getElem hi).symm
theorem qI {α:Type} (l:List α) {i:Nat} (x:α) (hi:i≤1000000):room (l.take i) [x]=true:=gC lnA
theorem Hd (x:aw):1≤(pW x).length:=by simp only [pW,List.length_append,dA,idB]; omega
theorem Dw {l:List aw} (h:∀ x∈l,iM x) (hn:l.length≤1000):iv (some {l:=l})=some (kK pW l):=by
 have hl:=eV (l:=l) (e:=pW) (m:=2000) fun x hx=>Cg (h x hx)
 simp only [iv,jk,Option.bind_some]
 refine CB omA omA (fun i hi=>?_) fun w=>?_
 ·exact ⟨_,IC (h _ (List.getElem_mem hi)).ok,fun w=>by simp only [jo,gh hi,cond_true,bD hi,Option.bind_some]⟩
 ·simp only [jo,zF,cond_false,dE,Option.bind_some,bG,Option.map_some]
theorem Ex {l:List aw} (h:∀ x∈l,iM x) (hn:l.length≤100):(kK pW l).length≤300000:=by
 have hl:=eV (l:=l) (e:=pW) (m:=2000) fun x hx=>Cg (h x hx)
 unfold kK
 rw [List.length_append,dA]; omega
theorem Jr {l:List aw} (h:uK l) (hn:l.length≤100) (hc:∀ x∈l,nf x=x):qS (kK pW l)=some ({l:=l},0):=by
 obtain ⟨hr,_,hg⟩:=h
 have hlen:=Ex hg hn
 have hu:∀ x∈l,U8s (pW x):=fun x hx=>(RD.hold (hg x hx)).1
 have hU:=U8s.flat hu
 have hL:(l.map pW).flatten.length≤1000000000:=by unfold kK at hlen; rw [List.length_append] at hlen; omega
 have e1:=zb Hd hu (show (kK pW l).length≤1000000000 by omega)
 have e2:=RD.range (body:=lQ ((l.length:Int),{p:=(l.map pW).flatten,bad:=false})) l pW (fun r i=>(r,({l:=l.take i}:bN),(i:Int))) (Sum.inl ({p:=[],bad:=false},({l:=l}:bN))) [] (by rwa [List.append_nil]) (by rwa [List.append_nil]) (fun i hi q hq hql=>?_) (by simp only [lQ,zF,cond_false,bG,Option.map_some,List.take_length])
 ·rw [List.append_nil] at e2
  have e2:bA _ (({p:=(l.map pW).flatten,bad:=false}:ag),({l:=[]}:bN),(0:Int))=_:=e2
  simp only [qS,jb,tG,eB,eS,cond_false,Option.bind_some,e1,e2]
  rw [nm]
  simp only [qq,eK,eS,Option.bind_some,Bool.not_false,cond_true,Dw hg omA,yT (show (kK pW l).length≤1000000000 by omega)]
  rfl
 ·have hm:=List.getElem_mem hi
  have k1:=(RD.step (RD.hold (hg _ hm)) hq hql).1
  rw [hc _ hm] at k1
  have hgo:nQ ({l:=l.take i}:bN) (l[i],{p:=q,bad:=false}) (i:Int) ()=some (Sum.inl (({p:=q,bad:=false}:ag),({l:=l.take (i+1)}:bN),((i+1:Nat):Int))):=by
   simp only [nQ,dl (qI l l[i] (show i≤1000000 by omega)),cm (show i≤4294967295 by omega),qF hi]
  simp only [lQ,gh hi,cond_true,k1,Option.bind_some]
  by_cases hi0:i=0
  ·rw [decide_eq_false (show ¬ (i:Int)>(0:Int) by omega),cond_false,nm,hgo]
  ·have h1:i - 1<(l.take i).length:=by rw [List.length_take]; omega
   have h2:=hr.lt (show i - 1<l.length by omega) hi omA
   have h3:=(CQ (hg _ (List.getElem_mem (show i - 1<l.length by omega))).id (hg _ hm).id).2 h2
   rw [decide_eq_true (show (i:Int)>(0:Int) by omega),cond_true,yM hi0 omA,bD h1,Option.bind_some,List.getElem_take,ye,Option.bind_some,decide_eq_false omA,cond_false,nm,hgo]
def rS (x:aZ):List Int:=leB 8 x.cV.toNat++(leB 8 x.seq.toNat++uE x.r)
def xQ (x:aZ):Prop:=isU 8 x.cV∧isU 8 x.seq∧td x.r∧tc x.r=x.r
theorem GV (x:aZ):1≤(rS x).length:=by simp only [rS,List.length_append,dA]; omega
theorem Gc {x:aZ} (h:xQ x):U8s (rS x):=U8s.le.app (U8s.le.app (RD.yW h.2.2.1).1)
theorem Cz {l:List aZ} (h:∀ x∈l,xQ x) (hn:l.length≤25):(kK rS l).length≤20000000:=by
 have hl:=eV (l:=l) (e:=rS) (m:=700016) fun x hx=>by
  have := AO (h x hx).2.2.1
  simp only [rS,List.length_append,dA]; omega
 unfold kK
 rw [List.length_append,dA]; omega
theorem FN {l:List aZ} (h:∀ x∈l,xQ x) (hn:l.length≤25):gE (some {l:=l})=some (kK rS l):=by
 have hl:=Cz h hn
 unfold kK at hl
 rw [List.length_append] at hl
 simp only [gE,kc,Option.bind_some]
 refine CB omA omA (fun i hi=>?_) fun w=>?_
 ·have hx:=h _ (List.getElem_mem hi)
  exact ⟨_,(WR.n8 hx.1.1).bind ((WR.n8 hx.2.1.1).bind (Cj hx.2.2.1.ok)),fun w=>by simp only [iI,gh hi,cond_true,bD hi,Option.bind_some,Option.bind_assoc]⟩
 ·simp only [iI,zF,cond_false,dE,Option.bind_some,bG,Option.map_some]
theorem KL {l:List aZ} (hr:gf l) (h:∀ x∈l,xQ x) (h0:Hv l) (hn:l.length≤25):pn (kK rS l)=some ({l:=l},0):=by
 have hlen:=Cz h hn
 have hu:∀ x∈l,U8s (rS x):=fun x hx=>Gc (h x hx)
 have hU:=U8s.flat hu
 have hL:(l.map rS).flatten.length≤1000000000:=by unfold kK at hlen; rw [List.length_append] at hlen; omega
 have e1:=zb GV hu (show (kK rS l).length≤1000000000 by omega)
 have e2:=RD.range (body:=kg ((l.length:Int),{p:=(l.map rS).flatten,bad:=false})) l rS (fun r i=>(r,({l:=l.take i}:bE),(i:Int))) (Sum.inl ({p:=[],bad:=false},({l:=l}:bE))) [] (by rwa [List.append_nil]) (by rwa [List.append_nil]) (fun i hi q hq hql=>?_) (by simp only [kg,zF,cond_false,bG,Option.map_some,List.take_length])
 ·rw [List.append_nil] at e2
  have e2:bA _ (({p:=(l.map rS).flatten,bad:=false}:ag),({l:=[]}:bE),(0:Int))=_:=e2
  simp only [pn,jb,qG,eB,eS,cond_false,Option.bind_some,e1,e2]
  rw [nm]
  simp only [oA,eK,eS,Option.bind_some,Bool.not_false,cond_true,FN h hn,yT (show (kK rS l).length≤1000000000 by omega)]
  rfl
 ·have hm:=List.getElem_mem hi
  have hx:=h _ hm
  unfold rS at hq hql ⊢
  rw [List.append_assoc,List.append_assoc] at hq hql ⊢
  obtain ⟨k1,hq,hql⟩:=RD.step (RD.n8 hx.1) hq hql
  obtain ⟨k2,hq,hql⟩:=RD.step (RD.n8 hx.2.1) hq hql
  have k3:=(RD.step (RD.yW hx.2.2.1) hq hql).1
  rw [hx.2.2.2] at k3
  have hgo:∀ a b,lV ({l:=l.take i}:bE) (l[i].cV,a) (l[i].seq,b) (l[i].r,{p:=q,bad:=false}) (i:Int) ()=some (Sum.inl (({p:=q,bad:=false}:ag),({l:=l.take (i+1)}:bE),((i+1:Nat):Int))):=fun a b=>by
   simp only [lV]
   rw [dl (qI l _ (show i≤1000000 by omega)),cm (show i≤4294967295 by omega)]
   rw [show ({cV:=l[i].cV,seq:=l[i].seq,r:=l[i].r}:aZ)=l[i] from rfl,qF hi]
  have hz:(l[i].seq==(0:Int))=false:=by have:=(h0 _ hm).2; simp; omega
  simp only [kg,gh hi,cond_true,k1,k2,k3,Option.bind_some,hz,cond_false]
  by_cases hi0:i=0
  ·rw [decide_eq_false (show ¬ (i:Int)>(0:Int) by omega),cond_false,nm,hgo]
  ·have h1:i - 1<(l.take i).length:=by rw [List.length_take]; omega
   have h2:=gf.lt hr (show i - 1<l.length by omega) hi omA
   rw [decide_eq_true (show (i:Int)>(0:Int) by omega),cond_true,yM hi0 omA,bD h1,Option.bind_some,List.getElem_take,decide_eq_false omA,cond_false,nm,hgo]
def sN (x:dj):List Int :=
 leB 8 x.r.ID.toNat++(leB 1 (un x.r.dn)++(leB 1 (un x.r.To)++(rkB x.r.Lo++(rkB x.r.Hi++(leB 8 x.r.Authority.toNat++(leB 4 (un x.r.cx)++(leB 8 x.from_.toNat++leB 8 x.to_.toNat)))))))
def Gs (x:dj):Prop:=Cd x.r∧Bi x.r=x.r∧isU 8 x.from_∧isU 8 x.to_
theorem Eh (x:dj):(sN x).length=54:=by simp only [sN,List.length_append,dA,vA]
theorem FL (x:dj):U8s (sN x):=U8s.le.app (U8s.le.app (U8s.le.app (U8s.le.app (U8s.le.app (U8s.le.app (U8s.le.app (U8s.le.app U8s.le)))))))
theorem Ap {l:List dj} (hn:l.length≤100):(kK sN l).length≤5404:=by
 have hl:=eV (l:=l) (e:=sN) (m:=54) fun x _=>by rw [Eh]; omega
 unfold kK
 rw [List.length_append,dA]; omega
theorem DC {b:cg} (h:∀ x∈b.l,Gs x) (hn:b.l.length≤100):im (some b)=some (kK sN b.l):=by
 have hl:=Ap hn
 unfold kK at hl
 rw [List.length_append] at hl
 simp only [im,lP,Option.bind_some]
 refine CB omA omA (fun i hi=>?_) fun w=>?_
 ·obtain ⟨⟨h1,_,_,h4,h5,h6,_⟩,_,h8,h9⟩:=h _ (List.getElem_mem hi)
  exact ⟨_,(WR.n8 h1.1).bind ((WR.u1 _).bind ((WR.u1 _).bind ((WR.eW h4).bind ((WR.eW h5).bind ((WR.n8 h6.1).bind ((WR.u4 _).bind ((WR.n8 h8.1).bind (WR.n8 h9.1)))))))),fun w=>by simp only [js,gh hi,cond_true,bD hi,Option.bind_some,Option.bind_assoc]⟩
 ·simp only [js,zF,cond_false,dE,Option.bind_some,bG,Option.map_some]
theorem RD.eW {x:Nat} (h:isF x):RD (fun r=>aE r (8:Int)) (rkB x) (aO x):=by
 obtain ⟨h0,h1⟩:=tF h
 exact RD.n8 (v:=aO x) ⟨h0,by rw [pw8]; omega⟩
theorem Jf {b:cg} (h:∀ x∈b.l,Gs x) (hn:b.l.length≤100):qj (kK sN b.l)=some (b,0):=by
 have hlen:=Ap hn
 have hu:∀ x∈b.l,U8s (sN x):=fun x _=>FL x
 have hU:=U8s.flat hu
 have hL:(b.l.map sN).flatten.length≤1000000000:=by unfold kK at hlen; rw [List.length_append] at hlen; omega
 have e1:=zb (fun x=>by rw [Eh]; omega) hu (show (kK sN b.l).length≤1000000000 by omega)
 have e2:=RD.range (body:=kY ((b.l.length:Int),{p:=(b.l.map sN).flatten,bad:=false})) b.l sN (fun r i=>(r,({l:=b.l.take i}:cg),(i:Int))) ({p:=[],bad:=false},b) [] (by rwa [List.append_nil]) (by rwa [List.append_nil]) (fun i hi q hq hql=>?_) (by simp only [kY,zF,cond_false,bG,Option.map_some,List.take_length])
 ·rw [List.append_nil] at e2
  have e2:bA _ (({p:=(b.l.map sN).flatten,bad:=false}:ag),({l:=[]}:cg),(0:Int))=_:=e2
  simp only [qj,jb,sn,eB,eS,cond_false,Option.bind_some,e1,e2]
  simp only [pu,eK,eS,Option.bind_some,Bool.not_false,cond_true,DC h hn,yT (show (kK sN b.l).length≤1000000000 by omega)]
  rfl
 ·obtain ⟨⟨h1,h2,h3,h4,h5,h6,h7⟩,hc,h8,h9⟩:=h _ (List.getElem_mem hi)
  unfold sN at hq hql ⊢
  simp only [List.append_assoc] at hq hql ⊢
  obtain ⟨k1,hq,hql⟩:=RD.step (RD.n8 h1) hq hql
  obtain ⟨k2,hq,hql⟩:=RD.step (RD.u1 h2) hq hql
  obtain ⟨k3,hq,hql⟩:=RD.step (RD.u1 h3) hq hql
  obtain ⟨k4,hq,hql⟩:=RD.step (RD.eW h4) hq hql
  obtain ⟨k5,hq,hql⟩:=RD.step (RD.eW h5) hq hql
  obtain ⟨k6,hq,hql⟩:=RD.step (RD.n8 h6) hq hql
  obtain ⟨k7,hq,hql⟩:=RD.step (RD.u4 h7) hq hql
  obtain ⟨k8,hq,hql⟩:=RD.step (RD.n8 h8) hq hql
  have k9:=(RD.step (RD.n8 h9) hq hql).1
  have c1:({ID:=b.l[i].r.ID,dn:=b.l[i].r.dn,To:=b.l[i].r.To,Lo:=cf b.l[i].r.Lo,Hi:=cf b.l[i].r.Hi,Authority:=b.l[i].r.Authority,cx:=b.l[i].r.cx}:dV)=b.l[i].r:=hc
  simp only [kY,gh hi,cond_true,k1,k2,k3,k4,k5,k6,k7,k8,k9,xj h4,xj h5,Option.bind_some,wY deA h2,wY deA h3,wY deA h7,c1]
  rw [dl (qI b.l _ (show i≤1000000 by omega)),cm (show i≤4294967295 by omega)]
  rw [show ({r:=b.l[i].r,from_:=b.l[i].from_,to_:=b.l[i].to_}:dj)=b.l[i] from rfl,qF hi]
def yZ (v:bf):List Int:=leB 8 v.ae.toNat++(leB 8 v.Index.toNat++(flB v.Del++byB v.Val))
def rB (x:bW):List Int:=leB 8 x.eW.toNat++kK yZ x.l
def ML (v:bf):Prop:=isU 8 v.ae∧isU 8 v.Index∧v.Val.length≤256∧U8s v.Val
theorem Inv.mem {n:Nat} {l:List bW} {m:List aP} (h:Inv n l m) {x:bW} (hx:x∈l) {v:bf} (hv:v∈x.l):∃ y∈m,aO y.At=x.eW∧ver y=v:=by
 obtain ⟨y,hy,e⟩:=List.mem_map.1 (h.pm.mem_iff.1 (wq.2 ⟨x,hx,rfl,hv⟩:(x.eW,v)∈mx l))
 exact ⟨y,hy,congrArg Prod.fst e,congrArg Prod.snd e⟩
theorem Inv.vn {n:Nat} {l:List bW} {m:List aP} (h:Inv n l m) {x:bW} (hx:x∈l) {v:bf} (hv:v∈x.l):ML v:=by
 obtain ⟨y,hy,_,rfl⟩:=h.mem hx hv
 obtain ⟨_,⟨g1,g2,g3,g4⟩,g5,g6⟩:=h.xg y hy
 exact ⟨⟨g1,by rw [pw8]; exact g2⟩,⟨g3,by rw [pw8]; exact g4⟩,g5,g6⟩
theorem Inv.at {n:Nat} {l:List bW} {m:List aP} (h:Inv n l m) {x:bW} (hx:x∈l):∃ f,isF f∧aO f=x.eW:=by
 obtain ⟨v,hv⟩:=List.exists_mem_of_ne_nil _ (h.ne x hx)
 obtain ⟨y,hy,e,_⟩:=h.mem hx hv
 exact ⟨_,(h.xg y hy).1,e⟩
theorem Inv.eW {n:Nat} {l:List bW} {m:List aP} (h:Inv n l m) {x:bW} (hx:x∈l):isU 8 x.eW:=by
 obtain ⟨f,h1,h2⟩:=h.at hx
 have := tF h1
 rw [← h2]
 exact ⟨this.1,by rw [pw8]; exact this.2⟩
theorem DK:∀ (l:List bW),(∀ x∈l,∀ v∈x.l,v.Val.length≤256)→(l.map rB).flatten.length≤l.length*12+(mx l).length*277
 | [],_=>Nat.zero_le _
 | x::l,h=>by
  have h1:=DK l fun y hy=>h y (by simp [hy])
  have h2:=eV (l:=x.l) (e:=yZ) (m:=277) fun v hv=>by
   have := h x siA v hv
   simp only [yZ,flB,byB,List.length_append,dA]; omega
  have h3:(mx (x::l)).length=x.l.length+(mx l).length:=by unfold mx; rw [List.flatMap_cons,List.length_append,List.length_map]
  rw [List.map_cons,List.flatten_cons,List.length_append,List.length_cons,h3]
  have h4:(rB x).length=12+(x.l.map yZ).flatten.length:=by simp only [rB,kK,List.length_append,dA]; omega
  omega
theorem CR {n:Nat} {l:List bW} {m:List aP} (h:Inv n l m) (hn:n≤3200):(kK rB l).length≤1000000:=by
 have h1:=DK l fun x hx v hv=>(h.vn hx hv).2.2.1
 have h2:=h.pm.length_eq
 rw [List.length_map] at h2
 have h3:=h.AA
 have h4:=h.Ab.len
 unfold kK
 rw [List.length_append,dA]; omega
theorem Mk {v:bf} (h:ML v):U8s (yZ v):=U8s.le.app (U8s.le.app (U8s.app U8s.le (U8s.le.app h.2.2.2)))
theorem FY {n:Nat} {l:List bW} {m:List aP} (h:Inv n l m) {x:bW} (hx:x∈l):U8s (rB x):=U8s.le.app (zf fun v hv=>Mk (h.vn hx hv))
theorem IB (v:bf):1≤(yZ v).length:=by simp only [yZ,List.length_append,dA]; omega
theorem Hr (x:bW):1≤(rB x).length:=by simp only [rB,List.length_append,dA]; omega
theorem Kz {n:Nat} {l:List bW} {m:List aP} (h:Inv n l m) (hn:n≤3200):ki (some {rows:=l})=some (kK rB l):=by
 have hl:=CR h hn
 have hl2:=h.Ab.len
 unfold kK at hl
 rw [List.length_append] at hl
 simp only [ki,pg,Option.bind_some]
 refine DL omA omA (fun i hi p hp=>?_) fun w=>?_
 ·have hm:=List.getElem_mem hi
  have hv:=h.Ab.vl _ hm
  unfold rB kK at hp ⊢
  obtain ⟨k1,hp⟩:=(WR.n8 (h.eW hm).1).step hp
  obtain ⟨k2,hp⟩:=(WR.cnt l[i].l.length omA).step hp
  have k3:=WR.loop (body:=iA l[i] (i:Int)) (fun w=>(Sum.inl (w,IntKind.i64.wrap ((i:Int)+(1:Int))):(ao×Int) ⊕ List Int)) (l[i].l.map yZ) lnA (fun j hj=>by
   rw [List.length_map] at hj
   have g:=h.vn hm (List.getElem_mem hj)
   refine ⟨_,by rw [List.getElem_map]; exact (WR.n8 g.1.1).bind ((WR.n8 g.2.1.1).bind ((WR.flag _).bind (WR.bytes _ (by have:=g.2.2.1; omega)))),fun w=>?_⟩
   simp only [iA,gh hj,cond_true,bD hj,Option.bind_some,Option.bind_assoc]) (fun w=>by simp [iA,bG]) _ hp
  simp only [jU,gh hi,cond_true,bD hi,Option.bind_some,k1,k2,k3]
  simp only [List.append_assoc]
 ·simp only [jU,zF,cond_false,dE,Option.bind_some,bG,Option.map_some]
theorem KK {x:Nat} (hx:isF x):∃ f,eP (aO x)=some f∧isF f∧aO f=aO x:=⟨_,xj hx,Ly x hx,AQ hx⟩
theorem EK {n:Nat} {l:List bW} {m:List aP} (h:Inv n l m) (hn:n≤10000):np (some {rows:=l})=some true:=by
 have hl:=h.Ab.len
 refine dW (fun k=>(k:Int)) l.length true (fun k hk=>?_) (by simp [kH,bG])
 have hm:=List.getElem_mem hk
 have hxl:=h.Ab.vl _ hm
 obtain ⟨f0,g1,g2⟩:=h.at hm
 obtain ⟨f,b1,b2,b3⟩:=KK g1
 rw [g2] at b1 b3
 have hne:(((l[k].l).length:Int)==(0:Int))=false:=by simpa using h.ne _ hm
 have hrk:(aO f !=l[k].eW)=false:=by rw [b3]; simp
 have hJ:kC l[k] (k:Int) ()=some (Sum.inl (((k+1:Nat):Int))):=by
  unfold kC
  refine dW (fun j=>(j:Int)) (l[k].l).length _ (fun j hj=>?_) (by simp [kE,bG,cm (show k≤4294967295 by omega)])
  have hvm:=List.getElem_mem hj
  have hdel:l[k].l[j].Del=true→l[k].l[j].Val=[]:=fun hd=>by
   obtain ⟨y,hy,_,ey⟩:=h.mem hm hvm
   have := h.cl y hy
   rw [← ey] at hd ⊢
   exact this hd
  have tail:(bif l[k].l[j].Del then (bif (decide (((l[k].l[j].Val).length:Int)>(0:Int))) then (none:Option (Int ⊕ (Int ⊕ Bool))) else some (Sum.inl (((j+1:Nat):Int)))) else some (Sum.inl (((j+1:Nat):Int))))=some (Sum.inl (((j+1:Nat):Int))):=by
   cases hd:l[k].l[j].Del with
   | false=>rfl
   | true=>rw [hdel hd]; rfl
  simp only [kE,gh hj,cond_true,bD hj,Option.bind_some,cm (show j≤4294967295 by omega),bG,Option.map_some]
  by_cases h0:j=0
  ·rw [decide_eq_false (show ¬ (j:Int)>(0:Int) by omega),cond_false]
   exact tail
  ·have hj1:j - 1<l[k].l.length:=by omega
   have ha:=JT (h.Ab.vg _ hm _ (List.getElem_mem hj1)) (h.Ab.vg _ hm _ hvm)
   rw [decide_eq_true ((h.vr _ hm).lt hj1 hj omA)] at ha
   rw [decide_eq_true (show (j:Int)>(0:Int) by omega),cond_true,yM h0 omA,bD hj1,Option.bind_some,ha,Option.bind_some]
   simp only [Bool.not_true,cond_false]
   exact tail
 simp only [kH,gh hk,cond_true,bD hk,Option.bind_some,hne,cond_false,b1,mN b2,hrk,bG,Option.map_some]
 by_cases h0:k=0
 ·rw [decide_eq_false (show ¬ (k:Int)>(0:Int) by omega),cond_false,nm,hJ]
 ·have hk1:k - 1<l.length:=by omega
  have hlt:l[k - 1].eW<l[k].eW:=h.rJ.lt hk1 hk omA
  rw [decide_eq_true (show (k:Int)>(0:Int) by omega),cond_true,yM h0 omA,bD hk1,Option.bind_some,decide_eq_false omA,cond_false,nm,hJ]
theorem Aj (p:List Int):eB {p:=p,bad:=false}=some (p.length:Int):=rfl
theorem Kn {n:Nat} {l:List bW} {m:List aP} (h:Inv n l m) (hn:n≤3200):sV (kK rB l)=some ({rows:=l},0):=by
 have hlen:=CR h hn
 have hl2:=h.Ab.len
 have hu:∀ x∈l,U8s (rB x):=fun x hx=>FY h hx
 have hU:=U8s.flat hu
 have hL:(l.map rB).flatten.length≤1000000000:=by unfold kK at hlen; rw [List.length_append] at hlen; omega
 have e1:=zb Hr hu (show (kK rB l).length≤1000000000 by omega)
 have e2:=RD.range (body:=mS ((l.length:Int),{p:=(l.map rB).flatten,bad:=false})) l rB (fun r i=>(r,({rows:=l.take i}:cn),(i:Int))) ({p:=[],bad:=false},({rows:=l}:cn)) [] (by rwa [List.append_nil]) (by rwa [List.append_nil]) (fun i hi q hq hql=>?_) (by simp only [mS,zF,cond_false,bG,Option.map_some,List.take_length])
 ·rw [List.append_nil] at e2
  have e2:bA _ (({p:=(l.map rB).flatten,bad:=false}:ag),({rows:=[]}:cn),(0:Int))=_:=e2
  simp only [sV,jb,uT,Aj,Option.bind_some,e1,e2,rF,eK,eS,Bool.not_false,cond_true,List.length_nil,EK h omA]
  rfl
 ·have hm:=List.getElem_mem hi
  have hv:=h.Ab.vl _ hm
  unfold rB kK at hq hql ⊢
  simp only [List.append_assoc] at hq hql ⊢
  obtain ⟨k1,hq,hql⟩:=RD.step (RD.n8 (h.eW hm)) hq hql
  have hge:=xf yZ IB l[i].l
  obtain ⟨k2,hq,hql⟩:=RD.step (RD.cnt (a:=((leB 4 l[i].l.length++((l[i].l.map yZ).flatten++q)).length:Int)) l[i].l.length lnA omA) hq hql
  have k3:=RD.range (body:=ni ((l[i].l.length:Int),{p:=(l[i].l.map yZ).flatten++q,bad:=false})) l[i].l yZ (fun r j=>(l[i].l.take j,r,(j:Int))) ({p:=q,bad:=false},l[i].l) q hq hql (fun j hj q hq hql=>by
   have g:=h.vn hm (List.getElem_mem hj)
   unfold yZ at hq hql ⊢
   simp only [List.append_assoc] at hq hql ⊢
   obtain ⟨k1,hq,hql⟩:=RD.step (RD.n8 g.1) hq hql
   obtain ⟨k2,hq,hql⟩:=RD.step (RD.n8 g.2.1) hq hql
   obtain ⟨k3,hq,hql⟩:=RD.step (RD.flag _) hq hql
   have k4:=(RD.step (RD.bytes (a:=256) _ (by have:=g.2.2.1; omega) deA g.2.2.2) hq hql).1
   simp only [ni,gh hj,cond_true,k1,k2,k3,k4,Option.bind_some]
   rw [dl (qI _ _ omA),cm (show j≤4294967295 by omega)]
   rw [show ({ae:=l[i].l[j].ae,Index:=l[i].l[j].Index,Del:=l[i].l[j].Del,Val:=l[i].l[j].Val}:bf)=l[i].l[j] from rfl,qF hj]) (by simp only [ni,zF,cond_false,bG,Option.map_some,List.take_length])
  have k3:bA _ (([]:List bf),({p:=(l[i].l.map yZ).flatten++q,bad:=false}:ag),(0:Int))=_:=k3
  simp only [mS,gh hi,cond_true,k1,Aj,k2,k3,Option.bind_some,qP]
  rw [dl (qI _ _ omA),cm (show i≤4294967295 by omega)]
  rw [show ({eW:=l[i].eW,l:=l[i].l}:bW)=l[i] from rfl,qF hi]
end Go.Proofs.YtgnkkopjkgdieaaGreat
