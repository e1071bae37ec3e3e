/- A part of the proof. -/
import Derived.Test.YtgnkkopjkgdieaaGreatLaneBytesGw
import Derived.Test.YtgnkkopjkgdieaaGreatLaneBytesP0
set_option linter.unusedVariables false
set_option linter.unusedSimpArgs false
set_option maxRecDepth 100000
namespace Go.Proofs.YtgnkkopjkgdieaaGreat
open Go Go.V
def TP {α:Type} (f:aB→Option (α×aB)) (P:α→Prop):Prop:=∀ t,tS t→∃ x t',f t=some (x,t')∧P x∧tS t'
theorem TP.ret {α:Type} {P:α→Prop} {x:α} (h:P x):TP (fun r=>some (x,r)) P:=fun r hr=>⟨x,r,rfl,h,hr⟩
theorem TP.bind {α β:Type} {f:aB→Option (α×aB)} {g:α×aB→Option (β×aB)} {P:α→Prop} {Q:β→Prop} (hf:TP f P) (hg:∀ x,P x→TP (fun r=>g (x,r)) Q):TP (fun r=>(f r).bind g) Q:=fun r hr=>by
 obtain ⟨x,r',h1,h2,h3⟩:=hf r hr
 obtain ⟨y,r2,k1,k2,k3⟩:=hg x h2 r' h3
 exact ⟨y,r2,by show (f r).bind g=_; rw [h1,Option.bind_some]; exact k1,k2,k3⟩
theorem TP.of {α:Type} {f g:aB→Option (α×aB)} {P:α→Prop} (h:∀ r,f r=g r) (hg:TP g P):TP f P:=fun r hr=>by rw [h]; exact hg r hr
theorem TP.imp {α:Type} {f:aB→Option (α×aB)} {P Q:α→Prop} (hf:TP f P) (h:∀ x,P x→Q x):TP f Q:=fun r hr=>by
 obtain ⟨x,r',h1,h2,h3⟩:=hf r hr
 exact ⟨x,r',h1,h x h2,h3⟩
theorem TP.next (n:Int) (h:0<n:=by decide) (h2:n≤1000000000:=by decide):TP (fun t=>aY t n) (fun v=>0≤v∧v<n):=fun t ht=>by
 obtain ⟨v,t',a,b,c,d,_⟩:=Gi ht h h2
 exact ⟨v,t',a,⟨b,c⟩,d⟩
def isN (x:Nat):Prop:=isF x∧cf x=x
theorem TP.float:TP (fun t=>dK t) isN:=fun t ht=>by
 obtain ⟨f,t',a,b,c⟩:=ET ht
 exact ⟨f,t',a,⟨b.1,FT b.1 b.2⟩,c⟩
section
variable {α S R:Type} {body:S→Option (S ⊕ R)} (st:aB→List α→Int→S) (out:aB→List α→R) {F:Int→aB→Option (α×aB)}
theorem TP.loop {P:α→Prop} (n:Int) (hn:n≤1000000) (h0:0≤n) (hF:∀ i,0≤i→i<n→TP (F i) P)
  (hb : ∀ r acc i,i<n→body (st r acc i)=(F i r).bind fun t=>gd (room acc [t.1]) (some (Sum.inl (st t.2 (acc++[t.1]) (IntKind.i64.wrap (i+(1:Int)))))))
  (hend : ∀ r acc i,¬ i<n→body (st r acc i)=some (Sum.inr (out r acc))) (r:aB) (hr:tS r) :
  ∃ r' acc,bA body (st r [] (0:Int))=some (out r' acc)∧tS r'∧(∀ x∈acc,P x)∧(acc.length:Int)≤n:=by
 have key:∀ (k:Nat) (r:aB) (acc:List α) (i:Int),tS r→(acc.length:Int)=i→i≤n→(∀ x∈acc,P x)→(n - i).toNat≤k→∃ r' acc',bA body (st r acc i)=some (out r' acc')∧tS r'∧(∀ x∈acc',P x)∧(acc'.length:Int)≤n:=by
  intro k
  induction k with
  | zero =>
   intro r acc i hr ha hi hP hk
   have hni:¬ i<n:=by omega
   exact ⟨r,acc,by rw [fM,hend r acc i hni]; rfl,hr,hP,by omega⟩
  | succ k ih =>
   intro r acc i hr ha hi hP hk
   by_cases hlt:i<n
   ·obtain ⟨x,r',h1,h2,h3⟩:=hF i omA hlt r hr
    have e1:IntKind.i64.wrap (i+(1:Int))=i+1:=by rw [wrap_i64] <;> omega
    obtain ⟨r2,acc2,g1,g2,g3,g4⟩:=ih r' (acc++[x]) (i+1) h3 (by simp only [List.length_append,List.length_cons,List.length_nil]; omega) omA (fun y hy=>by
     rcases List.mem_append.1 hy with hy | hy
     ·exact hP y hy
     ·cases List.mem_singleton.1 hy; exact h2) omA
    refine ⟨r2,acc2,?_,g2,g3,g4⟩
    rw [fM,hb r acc i hlt,h1,Option.bind_some,dm (room_le (by simp only [List.length_cons,List.length_nil]; omega)),e1]
    exact g1
   ·exact ⟨r,acc,by rw [fM,hend r acc i hlt]; rfl,hr,hP,by omega⟩
 exact key (n - 0).toNat r [] 0 hr rfl h0 (fun x hx=>by cases hx) (Nat.le_refl _)
theorem TP.yc {γ:Type} {P:α→Prop} {Q:γ→Prop} {fin:R→Option (γ×aB)} (n:Int) (hn:n≤1000000) (h0:0≤n) (hF:∀ i,0≤i→i<n→TP (F i) P)
  (hb : ∀ r acc i,i<n→body (st r acc i)=(F i r).bind fun t=>gd (room acc [t.1]) (some (Sum.inl (st t.2 (acc++[t.1]) (IntKind.i64.wrap (i+(1:Int)))))))
  (hend : ∀ r acc i,¬ i<n→body (st r acc i)=some (Sum.inr (out r acc)))
  (hfin : ∀ acc,(∀ x∈acc,P x)→(acc.length:Int)≤n→TP (fun r=>fin (out r acc)) Q):TP (fun r=>(bA body (st r [] (0:Int))).bind fin) Q:=fun r hr=>by
 obtain ⟨r',acc,h1,h2,h3,h4⟩:=TP.loop st out n hn h0 hF hb hend r hr
 obtain ⟨y,r2,k1,k2,k3⟩:=hfin acc h3 h4 r' h2
 exact ⟨y,r2,by show (bA body (st r [] (0:Int))).bind fin=_; rw [h1,Option.bind_some]; exact k1,k2,k3⟩
end
theorem TP.val:TP (fun t=>gD t) (fun l=>l.length≤3∧U8s l):=by
 refine TP.of (g:=fun t=>(aY t (4:Int)).bind fun u=>(bA (iU u) (u.2,[],(0:Int))).bind fun s=>some s) (fun t=>bnd fun u=>(vE _).symm) ?_
 refine TP.bind (TP.next 4) fun n hn r hr=>?_
 refine TP.yc (P:=zq) (body:=iU (n,r)) (F:=fun _ t=>(aY t (26:Int)).bind fun u=>some (IntKind.u8.wrap (IntKind.i64.wrap ((97:Int)+u.1)),u.2)) (fun t acc i=>(t,acc,i)) (fun t acc=>(acc,t)) n omA hn.1 (fun i _ _=>?_) (fun t acc i hi=>?_) (fun t acc i hi=>?_) (fun acc h1 h2=>?_) r hr
 ·refine TP.bind (TP.next 26) fun v hv=>?_
  dsimp only
  have e1:IntKind.i64.wrap ((97:Int)+v)=97+v:=by rw [wrap_i64] <;> omega
  have e2:IntKind.u8.wrap (97+v)=97+v:=by rw [wrap_u8] <;> omega
  rw [e1,e2]
  exact TP.ret ⟨by omega,by omega⟩
 ·have e:decide (i<n)=true:=by simpa using hi
  simp only [iU,e,cond_true,Option.bind_assoc,Option.bind_some]
 ·have e:decide (i<n)=false:=by simpa using hi
  simp only [iU,e,cond_false,bG,Option.map_some]
 ·exact TP.ret ⟨by omega,h1⟩
theorem LV {m:Nat} {v:Int} (h0:0≤v) (h:v<((256 ^ m:Nat):Int)):isU m v:=⟨h0,h⟩
theorem map_id' {β:Type} {l:List β} {f:β→β} (h:∀ x∈l,f x=x):l.map f=l:=by
 induction l with
 | nil=>rfl
 | cons x l ih=>rw [List.map_cons,h x (by simp),ih fun y hy=>h y (by simp [hy])]
theorem xi {v:Int} (h0:0≤v) (h:v<256):isU 8 (IntKind.u64.wrap v):=by rw [jO h0 omA]; exact ⟨h0,by rw [pw8]; omega⟩
theorem uT {v:Int} (h0:0≤v) (h:v<256):isU 8 (IntKind.u64.wrap (IntKind.i64.wrap ((1:Int)+v))):=by
 have e:IntKind.i64.wrap ((1:Int)+v)=1+v:=by rw [wrap_i64] <;> omega
 rw [e,jO omA omA]
 exact ⟨by omega,by rw [pw8]; omega⟩
theorem TP.of_:TP (fun t=>fO t) idG:=by
 refine TP.bind (TP.next 4) fun a ha=>?_
 dsimp only
 refine TP.bind (TP.next 4) fun b hb=>?_
 dsimp only
 exact TP.ret (P:=idG) ⟨xi ha.1 omA,uT hb.1 omA⟩
theorem half {v:Int} (h:0≤v∧v<3):0≤IntKind.i64.wrap (Int.tdiv v 2)∧IntKind.i64.wrap (Int.tdiv v 2)≤1:=by
 have : v=0∨v=1∨v=2:=by omega
 rcases this with rfl | rfl | rfl <;> decide
def Jw (h:aw):Prop:=iM h∧np h=h
theorem Iq {l:List Nat} (h:∀ x∈l,isN x):l.map cf=l:=by
 rw [List.map_congr_left (g:=id) fun x hx=>(h x hx).2,List.map_id]
def rt:aB:={L:=[],I:=0}
theorem Ky (t:aB):kq t=(fO t).bind fun id=>(aY id.2 (4:Int)).bind fun ep=>(aY ep.2 (3:Int)).bind fun n=>(bA (ik (n.1,rt)) ([],n.2,(0:Int))).bind fun s=>(aY s.1 (3:Int)).bind fun m=>(bA (iz (m.1,rt)) ([],m.2,(0:Int))).bind fun s2=>(aY s2.1 (3:Int)).bind fun k=>(bA (iw (k.1,rt)) ([],k.2,(0:Int))).bind fun s3=>(aY s3.1 (4:Int)).bind fun d=>(bif d.1==(0:Int) then gD d.2 else some ([],d.2)).bind fun v=>some (({ID:=id.1,ae:=IntKind.u64.wrap (IntKind.i64.wrap ((1:Int)+ep.1)),dO:=s.2,aX:=s2.2,dD:=s3.2,Data:=v.1}:aw),v.2):=by
 unfold kq
 refine bnd fun id=>bnd fun ep=>bnd fun n=>bnd ?_
 rintro ⟨t1,g⟩
 refine bnd fun m=>bnd ?_
 rintro ⟨t2,s⟩
 refine bnd fun k=>bnd ?_
 rintro ⟨t3,p⟩
 refine bnd fun d=>?_
 cases d.1==(0:Int) <;> rfl
theorem TP.hold:TP (fun t=>kq t) Jw:=by
 refine TP.of Ky ?_
 refine TP.bind TP.of_ fun id hid=>?_
 dsimp only
 refine TP.bind (TP.next 4) fun ep hep=>?_
 dsimp only
 refine TP.bind (TP.next 3) fun n hn=>?_
 dsimp only
 refine TP.yc (P:=isN) (body:=ik (n,rt)) (F:=fun _ t=>dK t) (fun t acc i=>(acc,t,i)) (fun t acc=>(t,acc)) n omA hn.1 (fun i _ _=>TP.float) (fun t acc i hi=>?_) (fun t acc i hi=>?_) (fun gets g1 g2=>?_)
 ·have e:decide (i<n)=true:=by simpa using hi
  simp only [ik,e,cond_true]
 ·have e:decide (i<n)=false:=by simpa using hi
  simp only [ik,e,cond_false,bG,Option.map_some]
 dsimp only
 refine TP.bind (TP.next 3) fun m hm=>?_
 dsimp only
 obtain ⟨q1,q2⟩:=half hm
 refine TP.yc (P:=fun x:Nat×Nat=>isN x.1∧isN x.2) (body:=iz (m,rt)) (F:=fun _ t=>(dK t).bind fun a=>(dK a.2).bind fun b=>some ((a.1,b.1),b.2)) (fun t acc i=>(acc,t,i)) (fun t acc=>(t,acc)) (IntKind.i64.wrap (Int.tdiv m 2)) omA q1 (fun i _ _=>?_) (fun t acc i hi=>?_) (fun t acc i hi=>?_) (fun scans s1 s2=>?_)
 ·refine TP.bind TP.float fun a ha=>?_
  dsimp only
  refine TP.bind TP.float fun b hb=>?_
  dsimp only
  exact TP.ret (P:=fun x:Nat×Nat=>isN x.1∧isN x.2) ⟨ha,hb⟩
 ·have e:decide (i<IntKind.i64.wrap (Int.tdiv m 2))=true:=by simpa using hi
  simp only [iz,e,cond_true,Option.bind_assoc,Option.bind_some]
 ·have e:decide (i<IntKind.i64.wrap (Int.tdiv m 2))=false:=by simpa using hi
  simp only [iz,e,cond_false,bG,Option.map_some]
 dsimp only
 refine TP.bind (TP.next 3) fun k hk=>?_
 dsimp only
 refine TP.yc (P:=isN) (body:=iw (k,rt)) (F:=fun _ t=>dK t) (fun t acc i=>(acc,t,i)) (fun t acc=>(t,acc)) k omA hk.1 (fun i _ _=>TP.float) (fun t acc i hi=>?_) (fun t acc i hi=>?_) (fun puts p1 p2=>?_)
 ·have e:decide (i<k)=true:=by simpa using hi
  simp only [iw,e,cond_true]
 ·have e:decide (i<k)=false:=by simpa using hi
  simp only [iw,e,cond_false,bG,Option.map_some]
 dsimp only
 refine TP.bind (TP.next 4) fun d hd=>?_
 dsimp only
 refine TP.bind (P:=fun l=>l.length≤3∧U8s l) ?_ fun v hv=>?_
 ·cases d==(0:Int) with
  | true=>exact TP.val
  | false=>exact TP.ret ⟨by decide,U8s.nil⟩
 dsimp only
 refine TP.ret (P:=Jw) ⟨⟨hid.1,hid.2,uT hep.1 omA,fun x hx=>(g1 x hx).1,fun x hx=>⟨(s1 x hx).1.1,(s1 x hx).2.1⟩,fun x hx=>(p1 x hx).1,?_,?_,?_,?_,hv.2⟩,?_⟩
 ·show gets.length≤32; omega
 ·show scans.length≤32; omega
 ·show puts.length≤32; omega
 ·show v.length≤257; omega
 ·have e:scans.map rK=scans:=by
   rw [List.map_congr_left (g:=_root_.id) fun x hx=>by show (cf x.1,cf x.2)=x; rw [(s1 x hx).1.2,(s1 x hx).2.2],List.map_id]
  simp only [np,Iq g1,Iq p1,e]
def FE (l:List bK):Prop:=qQ l∧tB l=l
theorem TP.writes:TP (fun t=>hY t) FE:=by
 refine TP.of (g:=fun t=>(aY t (3:Int)).bind fun u=>(bA (iZ (u.1,rt)) (u.2,[],(0:Int))).bind fun s=>some s) (fun t=>bnd fun u=>(vE _).symm) ?_
 refine TP.bind (TP.next 3) fun n hn=>?_
 dsimp only
 refine TP.yc (P:=fun x=>Dl x∧zB x=x) (body:=iZ (n,rt)) (F:=fun _ t=>(dK t).bind fun f=>(aY f.2 (4:Int)).bind fun d=>(bif !(d.1==(0:Int)) then gD d.2 else some ([],d.2)).bind fun v=>some (({At:=f.1,Del:=d.1==(0:Int),Val:=v.1}:bK),v.2)) (fun t acc i=>(t,acc,i)) (fun t acc=>(acc,t)) n omA hn.1 (fun i _ _=>?_) (fun t acc i hi=>?_) (fun t acc i hi=>?_) (fun acc h1 h2=>?_)
 ·refine TP.bind TP.float fun f hf=>?_
  dsimp only
  refine TP.bind (TP.next 4) fun d hd=>?_
  dsimp only
  refine TP.bind (P:=fun l=>l.length≤3∧U8s l) ?_ fun v hv=>?_
  ·cases !(d==(0:Int)) with
   | true=>exact TP.val
   | false=>exact TP.ret ⟨by decide,U8s.nil⟩
  dsimp only
  refine TP.ret (P:=fun x=>Dl x∧zB x=x) ⟨⟨hf.1,?_,hv.2⟩,?_⟩
  ·show v.length≤256; omega
  ·simp only [zB,hf.2]
 ·have e:decide (i<n)=true:=by simpa using hi
  simp only [iZ,e,cond_true,Option.bind_assoc]
  refine bnd fun f=>bnd fun d=>?_
  cases !(d.1==(0:Int)) with
  | true=>simp only [cond_true,Option.bind_assoc]; exact bnd fun v=>rfl
  | false=>rfl
 ·have e:decide (i<n)=false:=by simpa using hi
  simp only [iZ,e,cond_false,bG,Option.map_some]
 ·refine TP.ret (P:=FE) ⟨⟨by omega,fun x hx=>(h1 x hx).1⟩,?_⟩
  rw [tB,List.map_congr_left (g:=_root_.id) fun x hx=>(h1 x hx).2,List.map_id]
def AN (x:bB):Prop:=tc x∧tg x=x
theorem Hj (t:aB):jL t=(aY t (6:Int)).bind fun e=>(dC ([(0:Int),(0:Int),(0:Int),(8:Int),(9:Int),(3:Int)]) e.1).bind fun x=>(aY e.2 (4:Int)).bind fun p=>(aY p.2 (9:Int)).bind fun q=>(aY q.2 (3:Int)).bind fun n=>(bA (jE (n.1,rt)) ([],n.2,(0:Int))).bind fun s=>(aY s.1 (3:Int)).bind fun m=>(bA (jC (m.1,rt) x (IntKind.u64.wrap p.1) (IntKind.u64.wrap q.1) s.2) ([],m.2,(0:Int))).bind fun s=>some s:=by
 simp only [jL,Option.bind_assoc,Option.bind_some,px]
 refine bnd fun e=>bnd fun x=>bnd fun p=>bnd fun q=>bnd fun n=>bnd ?_
 rintro ⟨t1,g⟩
 exact bnd fun m=>(vE _).symm
theorem TP.zd:TP (fun t=>jL t) AN:=by
 refine TP.of Hj ?_
 refine TP.bind (TP.next 6) fun e he=>?_
 dsimp only
 have hg:∃ x:Int,dC ([(0:Int),(0:Int),(0:Int),(8:Int),(9:Int),(3:Int)]) e=some x∧isU 1 x:=by
  have : e=0∨e=1∨e=2∨e=3∨e=4∨e=5:=by omega
  rcases this with rfl | rfl | rfl | rfl | rfl | rfl <;> exact ⟨_,rfl,by decide,by decide⟩
 obtain ⟨x,hx,hx1⟩:=hg
 simp only [hx,Option.bind_some]
 refine TP.bind (TP.next 4) fun p hp=>?_
 dsimp only
 refine TP.bind (TP.next 9) fun q hq=>?_
 dsimp only
 refine TP.bind (TP.next 3) fun n hn=>?_
 dsimp only
 refine TP.yc (P:=Ii) (body:=jE (n,rt)) (F:=fun _ t=>(aY t (2:Int)).bind fun a=>(gD a.2).bind fun v=>some (({Has:=a.1==(0:Int),Val:=v.1}:cC),v.2)) (fun t acc i=>(acc,t,i)) (fun t acc=>(t,acc)) n omA hn.1 (fun i _ _=>?_) (fun t acc i hi=>?_) (fun t acc i hi=>?_) (fun Fq g1 g2=>?_)
 ·refine TP.bind (TP.next 2) fun a ha=>?_
  dsimp only
  refine TP.bind TP.val fun v hv=>?_
  dsimp only
  exact TP.ret (P:=Ii) ⟨by show v.length≤256; omega,hv.2⟩
 ·have e:decide (i<n)=true:=by simpa using hi
  simp only [jE,e,cond_true,Option.bind_assoc,Option.bind_some]
 ·have e:decide (i<n)=false:=by simpa using hi
  simp only [jE,e,cond_false,bG,Option.map_some]
 dsimp only
 refine TP.bind (TP.next 3) fun m hm=>?_
 dsimp only
 obtain ⟨q1,q2⟩:=half hm
 refine TP.yc (P:=fun l=>CL l∧yi l=l) (body:=jC (m,rt) x (IntKind.u64.wrap p) (IntKind.u64.wrap q) Fq) (F:=fun _ t=>(aY t (3:Int)).bind fun k=>(bA (jx (k.1,rt)) (k.2,(0:Int),[])).bind fun s=>some (s.2,s.1)) (fun t acc i=>(acc,t,i)) (fun t acc=>(({E:=x,ae:=IntKind.u64.wrap p,Index:=IntKind.u64.wrap q,dU:=Fq,aX:=acc}:bB),t)) (IntKind.i64.wrap (Int.tdiv m 2)) omA q1 (fun i _ _=>?_) (fun t acc i hi=>?_) (fun t acc i hi=>?_) (fun scans s1 s2=>?_)
 ·refine TP.bind (TP.next 3) fun k hk=>?_
  dsimp only
  refine TP.yc (P:=fun y=>GB y∧Cb y=y) (body:=jx (k,rt)) (F:=fun _ t=>(dK t).bind fun f=>(gD f.2).bind fun v=>some (({At:=f.1,Val:=v.1}:bP),v.2)) (fun t acc i=>(t,i,acc)) (fun t acc=>(t,acc)) k omA hk.1 (fun i _ _=>?_) (fun t acc i hi=>?_) (fun t acc i hi=>?_) (fun l l1 l2=>?_)
  ·refine TP.bind TP.float fun f hf=>?_
   dsimp only
   refine TP.bind TP.val fun v hv=>?_
   dsimp only
   exact TP.ret (P:=fun y=>GB y∧Cb y=y) ⟨⟨hf.1,by show v.length≤256; omega,hv.2⟩,by simp only [Cb,hf.2]⟩
  ·have e:decide (i<k)=true:=by simpa using hi
   simp only [jx,e,cond_true,Option.bind_assoc,Option.bind_some]
  ·have e:decide (i<k)=false:=by simpa using hi
   simp only [jx,e,cond_false,bG,Option.map_some]
  ·refine TP.ret (P:=fun l=>CL l∧yi l=l) ⟨⟨by omega,fun y hy=>(l1 y hy).1⟩,?_⟩
   rw [yi,List.map_congr_left (g:=_root_.id) fun y hy=>(l1 y hy).2,List.map_id]
 ·have e:decide (i<IntKind.i64.wrap (Int.tdiv m 2))=true:=by simpa using hi
  simp only [jC,e,cond_true,Option.bind_assoc,Option.bind_some]
  refine bnd fun k=>bnd ?_
  rintro ⟨t1,l⟩
  rfl
 ·have e:decide (i<IntKind.i64.wrap (Int.tdiv m 2))=false:=by simpa using hi
  simp only [jC,e,cond_false,bG,Option.map_some]
 ·refine TP.ret (P:=AN) ⟨⟨hx1,xi hp.1 omA,xi hq.1 omA,g1,fun l hl=>(s1 l hl).1,?_,?_⟩,?_⟩
  ·show Fq.length≤32; omega
  ·show scans.length≤32; omega
  ·have e1:Fq.map GN=Fq:=map_id' fun y _=>rfl
   have e2:scans.map yi=scans:=by rw [List.map_congr_left (g:=_root_.id) fun y hy=>(s1 y hy).2,List.map_id]
   simp only [tg,e1,e2]
def Jq (x:dV):Prop:=Cd x∧AY x=x
theorem TP.jW:TP (fun t=>nI t) Jq:=by
 refine TP.bind (TP.next 3) fun a ha=>?_
 dsimp only
 refine TP.bind (TP.next 4) fun b hb=>?_
 dsimp only
 refine TP.bind (TP.next 4) fun c hc=>?_
 dsimp only
 refine TP.bind TP.float fun lo hlo=>?_
 dsimp only
 refine TP.bind TP.float fun hi hhi=>?_
 dsimp only
 refine TP.bind (TP.next 2) fun d hd=>?_
 dsimp only
 refine TP.bind (TP.next 3) fun e he=>?_
 dsimp only
 have hb1:isU 1 b:=⟨hb.1,by rw [pw1]; omega⟩
 have hc1:isU 1 c:=⟨hc.1,by rw [pw1]; omega⟩
 have he1:isU 4 e:=⟨he.1,by rw [pw4]; omega⟩
 exact TP.ret (P:=Jq) ⟨⟨xi ha.1 omA,hb1,hc1,hlo.1,hhi.1,xi hd.1 omA,he1⟩,by simp only [AY,hlo.2,hhi.2]⟩
def BH (c:aG):Prop:=GZ c∧BA c=c
theorem FJ (t:aB):gJ t=(aY t (7:Int)).bind fun a =>
  bif (IntKind.u8.wrap (IntKind.i64.wrap ((1:Int)+a.1)))==(1:Int) then (aY a.2 (4:Int)).bind fun p=>some ({zC with Kind:=IntKind.u8.wrap (IntKind.i64.wrap ((1:Int)+a.1)),ae:=IntKind.u64.wrap (IntKind.i64.wrap ((1:Int)+p.1))},p.2) else
  bif (IntKind.u8.wrap (IntKind.i64.wrap ((1:Int)+a.1)))==(2:Int) then (kq a.2).bind fun h=>some ({zC with Kind:=IntKind.u8.wrap (IntKind.i64.wrap ((1:Int)+a.1)),br:=h.1},h.2) else
  bif (IntKind.u8.wrap (IntKind.i64.wrap ((1:Int)+a.1)))==(3:Int) then (fO a.2).bind fun i=>(aY i.2 (3:Int)).bind fun e=>(dC ([(0:Int),(0:Int),(8:Int)]) e.1).bind fun x=>(aY e.2 (4:Int)).bind fun p=>(aY p.2 (20:Int)).bind fun q=>(hY q.2).bind fun w=>some ({zC with Kind:=IntKind.u8.wrap (IntKind.i64.wrap ((1:Int)+a.1)),ID:=i.1,ae:=IntKind.u64.wrap (IntKind.i64.wrap ((1:Int)+p.1)),Index:=IntKind.u64.wrap q.1,E:=x,cw:=w.1},w.2) else
  bif (IntKind.u8.wrap (IntKind.i64.wrap ((1:Int)+a.1)))==(4:Int) then (fO a.2).bind fun i=>(aY i.2 (6:Int)).bind fun b=>(aY b.2 (4:Int)).bind fun p=>(aY p.2 (4:Int)).bind fun q=>(aY q.2 (3:Int)).bind fun n=>(bA (fh (n.1,rt)) ([],n.2,(0:Int))).bind fun s=>(jL s.1).bind fun x=>some ({zC with Kind:=IntKind.u8.wrap (IntKind.i64.wrap ((1:Int)+a.1)),ID:={ab:=bif b.1==(0:Int) then IntKind.u64.wrap (i.1.ab+(9223372036854775808:Int)) else i.1.ab,Seq:=i.1.Seq},ae:=IntKind.u64.wrap (IntKind.i64.wrap ((1:Int)+p.1)),bY:=IntKind.u64.wrap q.1,dN:=s.2,R:=x.1},x.2) else
  bif (IntKind.u8.wrap (IntKind.i64.wrap ((1:Int)+a.1)))==(5:Int) then (fO a.2).bind fun i=>some ({zC with Kind:=IntKind.u8.wrap (IntKind.i64.wrap ((1:Int)+a.1)),ID:=i.1},i.2) else
  bif (IntKind.u8.wrap (IntKind.i64.wrap ((1:Int)+a.1)))==(6:Int) then (nI a.2).bind fun r=>(aY r.2 (3:Int)).bind fun o=>some ({zC with Kind:=IntKind.u8.wrap (IntKind.i64.wrap ((1:Int)+a.1)),ap:=r.1,On:=decide (o.1>(0:Int))},o.2) else
  bif (IntKind.u8.wrap (IntKind.i64.wrap ((1:Int)+a.1)))==(7:Int) then (fO a.2).bind fun i=>(aY i.2 (4:Int)).bind fun p=>(nI p.2).bind fun r=>(hY r.2).bind fun w=>(jL w.2).bind fun x=>some ({zC with Kind:=IntKind.u8.wrap (IntKind.i64.wrap ((1:Int)+a.1)),ID:=i.1,ae:=IntKind.u64.wrap (IntKind.i64.wrap ((1:Int)+p.1)),ap:=r.1,cw:=w.1,R:=x.1},x.2) else
  some ({zC with Kind:=IntKind.u8.wrap (IntKind.i64.wrap ((1:Int)+a.1))},a.2):=by
 unfold gJ
 refine bnd fun a=>?_
 generalize hk:IntKind.u8.wrap (IntKind.i64.wrap ((1:Int)+a.1))=k
 cases k==(1:Int) with
 | true=>rfl
 | false =>
 cases k==(2:Int) with
 | true=>rfl
 | false =>
 cases k==(3:Int) with
 | true=>rfl
 | false =>
 cases k==(4:Int) with
 | true =>
  simp only [cond_true,cond_false,Option.bind_assoc]
  refine bnd fun i=>bnd fun b=>?_
  cases b.1==(0:Int) with
  | true =>
   simp only [cond_true,Option.bind_some,lC]
   refine bnd fun p=>bnd fun q=>bnd fun n=>bnd ?_
   rintro ⟨t1,l⟩
   subst hk; rfl
  | false =>
   simp only [cond_false,Option.bind_some,lC]
   refine bnd fun p=>bnd fun q=>bnd fun n=>bnd ?_
   rintro ⟨t1,l⟩
   subst hk; rfl
 | false =>
 cases k==(5:Int) with
 | true=>rfl
 | false =>
 cases k==(6:Int) with
 | true=>rfl
 | false =>
 cases k==(7:Int) with
 | true=>rfl
 | false=>rfl
theorem TP.command:TP (fun t=>gJ t) BH:=by
 refine TP.of FJ ?_
 refine TP.bind (TP.next 7) fun a ha=>?_
 dsimp only
 have ek:IntKind.u8.wrap (IntKind.i64.wrap ((1:Int)+a))=1+a:=by
  rw [wrap_i64 omA omA,wrap_u8] <;> omega
 rw [ek]
 have hh:∀ h:aw,np h=h→BA {zC with Kind:=2,br:=h}={zC with Kind:=2,br:=h}:=fun h e=>by simp only [BA,if_true,if_false,Int.reduceEq,e]
 have : a=0∨a=1∨a=2∨a=3∨a=4∨a=5∨a=6:=by omega
 rcases this with rfl | rfl | rfl | rfl | rfl | rfl | rfl
 ·refine TP.bind (TP.next 4) fun p hp=>?_
  dsimp only
  exact TP.ret (P:=BH) ⟨⟨kd 1 deA,⟨u0 8,u0 8⟩,uT hp.1 omA,u0 8,u0 1,GL,Jp,IB,u0 2,Nat.zero_le _,hZ,Je⟩,rfl⟩
 ·refine TP.bind TP.hold fun h hh=>?_
  dsimp only
  exact TP.ret (P:=BH) ⟨⟨kd 2 deA,⟨u0 8,u0 8⟩,u0 8,u0 8,u0 1,hh.1,Jp,IB,u0 2,Nat.zero_le _,hZ,Je⟩,by show ({zC with Kind:=2,br:=np h}:aG)=_; rw [hh.2]; rfl⟩
 ·refine TP.bind TP.of_ fun i hi=>?_
  dsimp only
  refine TP.bind (TP.next 3) fun e he=>?_
  dsimp only
  have hg:∃ x:Int,dC ([(0:Int),(0:Int),(8:Int)]) e=some x∧isU 1 x:=by
   have : e=0∨e=1∨e=2:=by omega
   rcases this with rfl | rfl | rfl <;> exact ⟨_,rfl,by decide,by decide⟩
  obtain ⟨x,hx,hx1⟩:=hg
  simp only [hx,Option.bind_some]
  refine TP.bind (TP.next 4) fun p hp=>?_
  dsimp only
  refine TP.bind (TP.next 20) fun q hq=>?_
  dsimp only
  refine TP.bind TP.writes fun w hw=>?_
  dsimp only
  exact TP.ret (P:=BH) ⟨⟨kd 3 deA,hi,uT hp.1 omA,xi hq.1 omA,hx1,GL,hw.1,IB,u0 2,Nat.zero_le _,hZ,Je⟩,by show ({zC with Kind:=3,ID:=cId i,E:=x,ae:=_,Index:=_,cw:=tB w}:aG)=_; rw [hw.2]; rfl⟩
 ·refine TP.bind TP.of_ fun i hi=>?_
  dsimp only
  refine TP.bind (TP.next 6) fun b hb=>?_
  dsimp only
  refine TP.bind (TP.next 4) fun p hp=>?_
  dsimp only
  refine TP.bind (TP.next 4) fun q hq=>?_
  dsimp only
  refine TP.bind (TP.next 3) fun n hn=>?_
  dsimp only
  refine TP.yc (P:=fun y=>Cs y∧vQ y=y) (body:=fh (n,rt)) (F:=fun i t=>(hY t).bind fun w=>some (({oA:=i,cw:=w.1}:dM),w.2)) (fun t acc i=>(acc,t,i)) (fun t acc=>(t,acc)) n omA hn.1 (fun j j0 j1=>?_) (fun t acc i hi=>?_) (fun t acc i hi=>?_) (fun parts p1 p2=>?_)
  ·refine TP.bind TP.writes fun w hw=>?_
   dsimp only
   exact TP.ret (P:=fun y=>Cs y∧vQ y=y) ⟨⟨LV (m:=1) j0 (by rw [pw1]; show j<256; omega),hw.1⟩,by simp only [vQ,hw.2]⟩
  ·have e:decide (i<n)=true:=by simpa using hi
   simp only [fh,e,cond_true,Option.bind_assoc,Option.bind_some]
  ·have e:decide (i<n)=false:=by simpa using hi
   simp only [fh,e,cond_false,bG,Option.map_some]
  dsimp only
  refine TP.bind TP.zd fun x hx=>?_
  dsimp only
  have hid:idG {ab:=bif b==(0:Int) then IntKind.u64.wrap (i.ab+(9223372036854775808:Int)) else i.ab,Seq:=i.Seq}:=by
   refine ⟨?_,hi.2⟩
   cases b==(0:Int) with
   | false=>exact hi.1
   | true =>
    show isU 8 (IntKind.u64.wrap (i.ab+(9223372036854775808:Int)))
    rw [kO]
    exact ⟨by omega,by rw [pw8]; omega⟩
  have hq2:isU 2 (IntKind.u64.wrap q):=by rw [jO omA omA]; exact ⟨hq.1,by rw [pw2]; omega⟩
  refine TP.ret (P:=BH) ⟨⟨kd 4 deA,hid,uT hp.1 omA,u0 8,u0 1,GL,Jp,hx.1,hq2,?_,fun y hy=>(p1 y hy).1,Je⟩,?_⟩
  ·show parts.length≤8; omega
  ·show ({zC with Kind:=4,ID:=_,ae:=_,bY:=_,dN:=parts.map vQ,R:=tg x}:aG)=_
   rw [hx.2,map_id' fun y hy=>(p1 y hy).2]; rfl
 ·refine TP.bind TP.of_ fun i hi=>?_
  dsimp only
  exact TP.ret (P:=BH) ⟨⟨kd 5 deA,hi,u0 8,u0 8,u0 1,GL,Jp,IB,u0 2,Nat.zero_le _,hZ,Je⟩,rfl⟩
 ·refine TP.bind TP.jW fun r hr=>?_
  dsimp only
  refine TP.bind (TP.next 3) fun o ho=>?_
  dsimp only
  show TP (fun t=>some (({zC with Kind:=1+5,ap:=r,On:=decide (o>(0:Int))}:aG),t)) BH
  refine TP.ret (P:=BH) ?_
  exact ⟨⟨kd 6 deA,⟨u0 8,u0 8⟩,u0 8,u0 8,u0 1,GL,Jp,IB,u0 2,Nat.zero_le _,hZ,hr.1⟩,by show ({zC with Kind:=6,ap:=AY r,On:=_}:aG)=_; rw [hr.2]; rfl⟩
 ·refine TP.bind TP.of_ fun i hi=>?_
  dsimp only
  refine TP.bind (TP.next 4) fun p hp=>?_
  dsimp only
  refine TP.bind TP.jW fun r hr=>?_
  dsimp only
  refine TP.bind TP.writes fun w hw=>?_
  dsimp only
  refine TP.bind TP.zd fun x hx=>?_
  dsimp only
  exact TP.ret (P:=BH) ⟨⟨kd 7 deA,hi,uT hp.1 omA,u0 8,u0 1,GL,hw.1,hx.1,u0 2,Nat.zero_le _,hZ,hr.1⟩,by show ({zC with Kind:=7,ID:=cId i,ae:=_,ap:=AY r,cw:=tB w,R:=tg x}:aG)=_; rw [hr.2,hw.2,hx.2]; rfl⟩
theorem DZ {x a b:Nat} (hx:isF x) (ha:isF a) (hb:isF b):od x a b=some (decide (aO a≤aO x)&&decide (aO x≤aO b)):=by
 simp only [od,mJ ha,mJ hx,mJ hb,Option.bind_some]
 cases decide (aO a≤aO x) <;> rfl
theorem IV {x y:Nat} (hx:isF x) (hy:isF y):kT x y=some (aO x==aO y):=by simp only [kT,mJ hx,mJ hy,Option.bind_some]
theorem IC {x a b:Nat} (hx:isF x) (ha:isF a) (hb:isF b):mq x a b=some (decide (aO a≤aO x)&&decide (aO x≤aO b)):=by
 simp only [mq,sO hx ha,sO hb hx,Option.bind_some]
 by_cases h1:aO x<aO a
 ·have : ¬ aO a≤aO x:=by omega
  simp [h1,this]
 ·by_cases h2:aO b<aO x
  ·have : ¬ aO x≤aO b:=by omega
   have h3:aO a≤aO x:=by omega
   simp [h1,h2,this]
  ·have h3:aO x≤aO b:=by omega
   have h4:aO a≤aO x:=by omega
   simp [h1,h2,h3,h4]
def CN (h:aw) (x:Nat):Bool:=h.dD.any fun y=>aO x==aO y
def vR (h:aw) (x:Nat):Bool:=(h.dO.any fun y=>aO x==aO y)||h.aX.any fun s=>decide (aO s.1≤aO x)&&decide (aO x≤aO s.2)
def mtB (a b:aw):Bool:=(a.dD.any fun x=>CN b x||vR b x)||b.dD.any fun x=>vR a x
theorem GR {h:aw} (g:iM h) {x:Nat} (hx:isF x):qX h x x=some (CN h x):=by
 obtain ⟨_,_,_,g4,g5,g6,l1,l2,l3,_⟩:=g
 obtain ⟨z,h1,h2⟩:=yO (body:=lP h x x) h.dD (fun y=>aO x==aO y) (fun i hi=>by
  have hy:=g6 _ (List.getElem_mem hi)
  have e:(decide (aO x≤aO h.dD[i])&&decide (aO h.dD[i]≤aO x))=(aO x==aO h.dD[i]):=by
   rw [Bool.eq_iff_iff]
   simp only [Bool.and_eq_true,decide_eq_true_eq,beq_iff_eq]
   omega
  simp only [lP,gf hi,cond_true,bD hi,Option.bind_some,DZ hy hx hx,e,cm (show i≤4294967295 by omega)]
  cases aO x==aO h.dD[i] <;> rfl) (by simp [lP,bG])
 simp only [qX,h1,Option.bind_some,h2]; rfl
theorem Dq {h:aw} (g:iM h) {x:Nat} (hx:isF x):qG h x=some (vR h x):=by
 obtain ⟨_,_,_,g4,g5,g6,l1,l2,l3,_⟩:=g
 obtain ⟨z,h1,h2⟩:=yO (body:=nn h x) h.dO (fun y=>aO x==aO y) (fun i hi=>by
  have hy:=g4 _ (List.getElem_mem hi)
  simp only [nn,gf hi,cond_true,bD hi,Option.bind_some,IV hx hy,cm (show i≤4294967295 by omega)]
  cases aO x==aO h.dO[i] <;> rfl) (by simp [nn,bG])
 obtain ⟨z',h3,h4⟩:=yO (body:=mV h x) h.aX (fun s=>decide (aO s.1≤aO x)&&decide (aO x≤aO s.2)) (fun i hi=>by
  have hy:=g5 _ (List.getElem_mem hi)
  simp only [mV,gf hi,cond_true,bD hi,Option.bind_some,DZ hx hy.1 hy.2,cm (show i≤4294967295 by omega)]
  cases (decide (aO h.aX[i].1≤aO x)&&decide (aO x≤aO h.aX[i].2)) <;> rfl) (by simp [mV,bG])
 simp only [qG,h1,h3,Option.bind_some,h2,h4,vR]
 cases h.dO.any fun y=>aO x==aO y <;> rfl
theorem KX {a b:aw} (ga:iM a) (gb:iM b):ub a b=some (mtB a b):=by
 have h1:=rq (body:=nZ a b) a.dD (fun x=>CN b x||vR b x) (Sum.inr true) (Sum.inl ()) (fun i hi=>by
  have hx:=ga.2.2.2.2.2.1 _ (List.getElem_mem hi)
  simp only [nZ,gf hi,cond_true,bD hi,Option.bind_some,GR gb hx,Dq gb hx,cm (show i≤4294967295 by have:=ga.2.2.2.2.2.2.2.2.1; omega)]
  cases CN b a.dD[i] <;> cases vR b a.dD[i] <;> rfl) (by simp [nZ,bG])
 have h2:=rq (body:=oe b a) b.dD (fun x=>vR a x) true false (fun i hi=>by
  have hx:=gb.2.2.2.2.2.1 _ (List.getElem_mem hi)
  simp only [oe,gf hi,cond_true,bD hi,Option.bind_some,Dq ga hx,cm (show i≤4294967295 by have:=gb.2.2.2.2.2.2.2.2.1; omega)]
  cases vR a b.dD[i] <;> rfl) (by simp [oe,bG])
 simp only [ub,h1,mtB]
 cases a.dD.any fun x=>CN b x||vR b x with
 | true=>rfl
 | false =>
  show qa b a ()=_
  simp only [qa,h2]
  cases b.dD.any fun x=>vR a x <;> rfl
theorem JI {l:List Nat} (g:∀ x∈l,isF x) (hl:l.length≤1000) {x:Nat} (hx:isF x):tI l x=some (l.any fun y=>aO x==aO y):=by
 have h1:=rq (body:=pG l x) l (fun y=>aO x==aO y) true false (fun i hi=>by
  have hy:=g _ (List.getElem_mem hi)
  have e:decide (aO l[i]=aO x)=(aO x==aO l[i]):=by
   by_cases e1:aO x=aO l[i]
   ·simp [e1]
   ·have : ¬ aO l[i]=aO x:=fun h=>e1 h.symm
    simp [e1,this]
  simp only [pG,gf hi,cond_true,bD hi,Option.bind_some,rn hy hx,e,cm (show i≤4294967295 by omega)]
  cases aO x==aO l[i] <;> rfl) (by simp [pG,bG])
 rw [tI,h1]
 cases l.any fun y=>aO x==aO y <;> rfl
theorem Cj {h:aw} (g:iM h) {x:Nat} (hx:isF x):qL h x=some (vR h x):=by
 have g':=g
 obtain ⟨_,_,_,g4,g5,g6,l1,l2,l3,_⟩:=g
 have h1:=rq (body:=nh h x) h.aX (fun s=>decide (aO s.1≤aO x)&&decide (aO x≤aO s.2)) (Sum.inr true) (Sum.inl ()) (fun i hi=>by
  have hy:=g5 _ (List.getElem_mem hi)
  simp only [nh,gf hi,cond_true,bD hi,Option.bind_some,IC hx hy.1 hy.2,cm (show i≤4294967295 by omega)]
  cases (decide (aO h.aX[i].1≤aO x)&&decide (aO x≤aO h.aX[i].2)) <;> rfl) (by simp [nh,bG])
 simp only [qL,h1,vR]
 cases h.aX.any fun s=>decide (aO s.1≤aO x)&&decide (aO x≤aO s.2) with
 | true=>simp [ia]
 | false =>
  show oL h x ()=_
  simp only [oL,JI g4 omA hx,Option.bind_some,Bool.or_false]
theorem JE {a b:aw} (ga:iM a) (gb:iM b):tV a b=some (mtB a b):=by
 have h1:=rq (body:=og a b) a.dD (fun x=>CN b x||vR b x) (Sum.inr true) (Sum.inl ()) (fun i hi=>by
  have hx:=ga.2.2.2.2.2.1 _ (List.getElem_mem hi)
  simp only [og,gf hi,cond_true,bD hi,Option.bind_some,JI gb.2.2.2.2.2.1 (by have:=gb.2.2.2.2.2.2.2.2.1; omega) hx,Cj gb hx,cm (show i≤4294967295 by have:=ga.2.2.2.2.2.2.2.2.1; omega)]
  show (bif CN b a.dD[i] then _ else _)=_
  cases CN b a.dD[i] <;> cases vR b a.dD[i] <;> rfl) (by simp [og,bG])
 have h2:=rq (body:=oc b a) b.dD (fun x=>vR a x) true false (fun i hi=>by
  have hx:=gb.2.2.2.2.2.1 _ (List.getElem_mem hi)
  simp only [oc,gf hi,cond_true,bD hi,Option.bind_some,Cj ga hx,cm (show i≤4294967295 by have:=gb.2.2.2.2.2.2.2.2.1; omega)]
  cases vR a b.dD[i] <;> rfl) (by simp [oc,bG])
 simp only [tV,h1,mtB]
 cases a.dD.any fun x=>CN b x||vR b x with
 | true=>rfl
 | false =>
  show qm b a ()=_
  simp only [qm,h2]
  cases b.dD.any fun x=>vR a x <;> rfl
theorem tF {p q:Prop} {b:Bool} {X:Option Bool} (hb:b=tr p) (h:p→X=some (tr q)):(bif b then X else some false)=some (tr (p∧q)):=by
 have := sU (p:=p) (q:=q) (b:=!b) (X:=X) (by rw [hb]) h
 rw [← this]; cases b <;> rfl
theorem Af {x y:Nat} (hx:isF x) (hy:isF y):kT x y=some (tr (cf x=cf y)):=by
 rw [IV hx hy]; exact congrArg some (yF (by rw [Lp hx hy]; simp))
theorem JQ {a b:aw} (ha:iM a) (hb:iM b):sa a b=some (tr (np a=np b)):=by
 obtain ⟨_,_,_,a4,a5,a6,a7,a8,a9,a11,a10⟩:=ha
 obtain ⟨_,_,_,b4,b5,b6,b7,b8,b9,_,b10⟩:=hb
 have e1:(bif ((a.dO.length:Nat):Int) !=((b.dO.length:Nat):Int) then some false else bA (mH a b) (0:Int))=some (tr (a.dO.map cf=b.dO.map cf)):=by
  refine CU fun hl=>(uW (body:=mH a b) true false cf a.dO b.dO hl omA (fun i hi=>?_) ?_).trans (congrArg some Cw)
  ·have hi':i<b.dO.length:=hl ▸ hi
   simp only [mH,gf hi,cond_true,bD hi,bD hi',Option.bind_some,Af (a4 _ (List.getElem_mem hi)) (b4 _ (List.getElem_mem hi')),bG,Option.map_some]
   exact Hx
  ·simp [mH,bG]
 have e2:(bif ((a.aX.length:Nat):Int) !=((b.aX.length:Nat):Int) then some false else bA (mI a b) (0:Int))=some (tr (a.aX.map rK=b.aX.map rK)):=by
  refine CU fun hl=>(uW (body:=mI a b) true false rK a.aX b.aX hl omA (fun i hi=>?_) ?_).trans (congrArg some Cw)
  ·have hi':i<b.aX.length:=hl ▸ hi
   have g1:=a5 _ (List.getElem_mem hi)
   have g2:=b5 _ (List.getElem_mem hi')
   have e:qY a.aX[i] b.aX[i]=some (tr (rK a.aX[i]=rK b.aX[i])):=by
    simp only [qY,Af g1.1 g2.1,Af g1.2 g2.2,Option.bind_some]
    rw [tF rfl fun _=>rfl]
    exact congrArg some (pd (by simp [rK]))
   simp only [mI,gf hi,cond_true,bD hi,bD hi',Option.bind_some,e,bG,Option.map_some]
   exact Hx
  ·simp [mI,bG]
 have e3:(bif ((a.dD.length:Nat):Int) !=((b.dD.length:Nat):Int) then some false else bA (mC a b) (0:Int))=some (tr (a.dD.map cf=b.dD.map cf)):=by
  refine CU fun hl=>(uW (body:=mC a b) true false cf a.dD b.dD hl omA (fun i hi=>?_) ?_).trans (congrArg some Cw)
  ·have hi':i<b.dD.length:=hl ▸ hi
   simp only [mC,gf hi,cond_true,bD hi,bD hi',Option.bind_some,Af (a6 _ (List.getElem_mem hi)) (b6 _ (List.getElem_mem hi')),bG,Option.map_some]
   exact Hx
  ·simp [mC,bG]
 have e4:dT a.Data b.Data=some (tr (a.Data=b.Data)):=by rw [FU _ _ omA]; exact congrArg some (yF (by simp))
 simp only [sa,e1,e2,e3,e4,Option.bind_some]
 rw [tF (p:=a.ID.ab=b.ID.ab∧a.ID.Seq=b.ID.Seq) (q:=a.ae=b.ae∧a.dO.map cf=b.dO.map cf∧a.aX.map rK=b.aX.map rK∧a.dD.map cf=b.dD.map cf∧a.Data=b.Data) (yF (by simp)) fun _=>tF (LX _ _) fun _=>tF rfl fun _=>tF rfl fun _=>tF rfl fun _=>rfl]
 refine congrArg _ (pd ?_)
 simp only [np,aw.mk.injEq,cy.mk.injEq]
 constructor
 ·rintro ⟨h1,h2,h3,h4,h5,h6⟩
  exact ⟨(id_eq _ _).1 h1,h2,h3,h4,h5,h6⟩
 ·rintro ⟨h1,h2,h3,h4,h5,h6⟩
  exact ⟨(id_eq _ _).2 h1,h2,h3,h4,h5,h6⟩
theorem Kb {α:Type} (a:α):tr (a=a)=true:=DS rfl
def idk (i:cy):Int:=i.ab*18446744073709551616+i.Seq
def kid (h:aw):Int:=idk h.ID
theorem Gh {i:cy} (h:idG i):0≤i.ab∧i.ab<18446744073709551616∧0≤i.Seq∧i.Seq<18446744073709551616:=by
 obtain ⟨⟨a,b⟩,c,d⟩:=h
 rw [pw8] at b d
 exact ⟨a,by omega,c,by omega⟩
theorem iM.id {h:aw} (g:iM h):idG h.ID:=⟨g.1,g.2.1⟩
theorem Ft {a b:cy} (ha:idG a) (hb:idG b):idk a=idk b↔a=b:=by
 have h1:=Gh ha
 have h2:=Gh hb
 unfold idk
 constructor
 ·intro h
  cases a; cases b
  simp only [cy.mk.injEq] at h1 h2 h ⊢
  omega
 ·rintro rfl; rfl
theorem Mc {a b:cy} (ha:idG a) (hb:idG b):idk a<idk b↔a.ab<b.ab∨(a.ab=b.ab∧a.Seq<b.Seq):=by
 have h1:=Gh ha
 have h2:=Gh hb
 unfold idk
 omega
theorem xq {a b:cy} (ha:idG a) (hb:idG b):((a.ab==b.ab)&&(a.Seq==b.Seq))=(idk a==idk b):=by
 rw [Bool.eq_iff_iff]
 simp only [Bool.and_eq_true,beq_iff_eq,Ft ha hb]
 cases a; cases b; simp
def sg (a b:Int):Int:=if a<b then -1 else if a>b then 1 else 0
theorem CF (a b:Int):eO a b=some (sg a b):=by
 have h1:(a !=a)=false:=by simp
 have h2:(b !=b)=false:=by simp
 simp only [eO,kU,Option.bind_some,h1,h2,cond_false,sg]
 by_cases h:a<b
 ·simp [h]
 ·by_cases h':a>b
  ·simp [h,h']
  ·simp [h,h']
theorem Ih (a b:Int):rV [a,b]=some (if a=0 then b else a):=by
 have h:=Cp (body:=nY [a,b]) [a,b] (fun x=>x !=0) (fun x=>x) 0 (fun i hi=>by
  simp only [nY,gf hi,cond_true,bD hi,Option.bind_some,cm (show i≤4294967295 by simp at hi; omega)]
  cases [a,b][i] !=0 <;> rfl) (by simp [nY,bG])
 rw [rV,h]
 by_cases h1:a=0
 ·subst h1
  by_cases h2:b=0
  ·subst h2; rfl
  ·simp [h2]
 ·simp [h1]
def BD (a b:cy):Int:=if sg a.ab b.ab=0 then sg a.Seq b.Seq else sg a.ab b.ab
theorem yn (x:aw) (i:cy):mE x i=some (BD x.ID i):=by
 simp only [mE,CF,Ih,Option.bind_some,BD]
theorem IJ {a b:Int}:sg a b<0↔a<b:=by unfold sg; split <;> (try split) <;> omega
theorem He {a b:Int}:sg a b=0↔a=b:=by unfold sg; split <;> (try split) <;> omega
theorem CX {a b:cy} (ha:idG a) (hb:idG b):BD a b<0↔idk a<idk b:=by
 rw [Mc ha hb]
 unfold BD
 split
 ·rename_i h; rw [He] at h; rw [IJ]; omega
 ·rename_i h; rw [He] at h; rw [IJ]; omega
theorem Jc {a b:cy} (ha:idG a) (hb:idG b):BD a b=0↔idk a=idk b:=by
 rw [Ft ha hb]
 unfold BD
 split
 ·rename_i h; rw [He] at h; rw [He]
  cases a; cases b
  simp only [cy.mk.injEq] at h ⊢
  omega
 ·rename_i h
  have h':=h
  rw [He] at h'
  constructor
  ·intro e; exact absurd e h
  ·rintro rfl; exact absurd rfl h'
def uN (l:List aw):Prop:=iC kid l∧l.length≤1000∧∀ x∈l,iM x
theorem find_eq {l:List aw} (h:uN l) {i:cy} (hi:idG i):iD (some {l:=l}) i=some (((pl kid (idk i) l:Nat):Int),hit kid (idk i) l):=by
 obtain ⟨hr,hn,hg⟩:=h
 have hs:bA (je {l:=l} i) (((l.length:Nat):Int),(0:Int))=some ((lb (lo kid (idk i)) l:Nat):Int):=by
  refine ur (R:=Int) l (lo kid (idk i)) omA (hr.ahd (idk i)) (fun a j k hk hij hke hj=>?_) (fun a j hij=>?_)
  ·have e1:decide ((a:Int)<(j:Int))=true:=by simpa using hij
   have e2:=yl (i:=a) (j:=j) omA
   rw [← hke] at e2
   simp only [je,e1,cond_true,e2,bD hk,Option.bind_some,yn]
   have e4:decide (BD l[k].ID i<0)=lo kid (idk i) l[k]:=by
    unfold lo
    rw [decide_eq_decide]
    exact CX (hg _ (List.getElem_mem hk)).id hi
   rw [e4,cm (show k≤4294967295 by omega)]
   cases lo kid (idk i) l[k] <;> rfl
  ·have e1:decide ((a:Int)<(j:Int))=false:=by simpa using hij
   simp only [je,e1,cond_false,bG,Option.map_some]
 simp only [iD,hs,Option.bind_some,mK]
 rw [show lb (lo kid (idk i)) l=pl kid (idk i) l from rfl]
 unfold hit
 by_cases hk:pl kid (idk i) l<l.length
 ·rw [gf hk,cond_true,bD hk,Option.bind_some]
  simp only [yn,Option.bind_some,List.getElem?_eq_getElem hk]
  congr 2
  rw [Bool.eq_iff_iff]
  simp only [beq_iff_eq]
  exact Jc (hg _ (List.getElem_mem hk)).id hi
 ·have e1:decide (((pl kid (idk i) l:Nat):Int)<(l.length:Int))=false:=by simpa using hk
  rw [e1,cond_false,List.getElem?_eq_none omA]
  rfl
theorem HX {l:List aw} (h:uN l) {x:aw} (hx:iM x) (hn:l.length≤999):uN (mZ kid l x):=by
 refine ⟨tG h.1 x,by have:=wL h.1 x; omega,fun y hy=>?_⟩
 rcases (lx h.1 x y).1 hy with rfl | ⟨h1,_⟩
 ·exact hx
 ·exact h.2.2 y h1
theorem Jb {l:List aw} (h:uN l) (s:Int):uN (sf kid s l):=by
 refine ⟨BW h.1 s,by have:=AL h.1 s; have:=h.2.1; omega,fun y hy=>?_⟩
 rw [← lX h.1] at hy
 exact h.2.2 y (List.mem_filter.1 hy).1
def bars (h x:aw):Bool:=!(kid x==kid h)&&mtB x h
theorem Gq (l:List Nat) (h:l.length≤1000):fJ l=some l:=dm (room_le (by simp; omega))
theorem KV (l:List (Nat×Nat)) (h:l.length≤1000):fZ l=some l:=dm (room_le (by simp; omega))
theorem KL (l:List Int) (h:l.length≤1000):fg l=some l:=dm (room_le (by simp; omega))
theorem KN {l:List aw} (h:uN l) (hn:l.length≤999) {x:aw} (hx:iM x):jH (some {l:=l}) x=some (if l.any (bars x) then (8,some {l:=l}) else (0,some {l:=mZ kid l x})):=by
 have h1:=rq (body:=jd {l:=l} x) l (bars x) (Sum.inr ((8:Int),some {l:=l})) (Sum.inl ()) (fun i hi=>by
  have hg:=h.2.2 _ (List.getElem_mem hi)
  simp only [jd,gf hi,cond_true,bD hi,Option.bind_some,xq hg.id hx.id,KX hg hx,cm (show i≤4294967295 by omega),bars]
  show (bif !(kid l[i]==kid x) then _ else _)=_
  cases kid l[i]==kid x <;> cases mtB l[i] x <;> rfl) (by simp [jd,bG])
 simp only [jH,h1]
 cases hb:l.any (bars x) with
 | true=>rfl
 | false =>
  show kJ x {l:=l} ()=_
  have hx':=hx
  obtain ⟨_,_,_,_,_,_,l1,l2,l3,l4,_⟩:=hx
  simp only [kJ,Gq x.dO omA,KV x.aX omA,Gq x.dD omA,KL x.Data omA,Option.bind_some,find_eq h hx'.id]
  rw [show ({ID:=x.ID,ae:=x.ae,dO:=x.dO,aX:=x.aX,dD:=x.dD,Data:=x.Data}:aw)=x from rfl,show idk x.ID=kid x from rfl]
  cases hh:hit kid (kid x) l with
  | true =>
   obtain ⟨hk,h3,h4⟩:=ml hh
   simp only [cond_true,bD hk,Option.bind_some,Int.toNat_natCast,Am hh]; rfl
  | false =>
   simp only [cond_false,gj,dm (wV (x:=x) (kid x) (show l.length≤1073741823 by omega)),Option.bind_some,wZ hh]; rfl
theorem get_eq {l:List aw} (h:uN l) {i:cy} (hi:idG i):jh (some {l:=l}) i=some (match jK kid (idk i) l with | some x=>(x,true) | none=>(dX,false)):=by
 simp only [jh,find_eq h hi,Option.bind_some]
 cases hh:hit kid (idk i) l with
 | false=>simp [jK,hh]
 | true =>
  obtain ⟨hk,h3,h4⟩:=ml hh
  simp only [h4,Bool.not_true,cond_false,bD hk,Option.bind_some]
theorem drop_eq {l:List aw} (h:uN l) {i:cy} (hi:idG i):lc (some {l:=l}) i=some (hit kid (idk i) l,some {l:=sf kid (idk i) l}):=by
 simp only [lc,find_eq h hi,Option.bind_some]
 cases hh:hit kid (idk i) l with
 | false =>
  have e:sf kid (idk i) l=l:=by unfold sf pr; rw [hh,cond_false,List.take_append_drop]
  rw [e]; rfl
 | true =>
  obtain ⟨hk,h3,h4⟩:=ml hh
  have hf:fits l ((pl kid (idk i) l:Nat):Int) ((pl kid (idk i) l+1:Nat):Int)=true:=by simp [fits]; omega
  have hn:=h.2.1
  rw [cond_true,cm (show pl kid (idk i) l≤4294967295 by omega),gn,dm hf,Option.bind_some,Gp hh]
theorem LC (l:List aw):jj (some {l:=l})=some (l.length:Int):=rfl
theorem IQ {l:List aw} (hn:l.length≤1000) (e:Int):fX (some {l:=l}) e=some (l.any fun x=>decide (x.ae≤e)):=by
 obtain ⟨z,h1,h2⟩:=yO (body:=gH {l:=l} e) l (fun x=>decide (x.ae≤e)) (fun i hi=>by
  simp only [gH,gf hi,cond_true,bD hi,Option.bind_some,cm (show i≤4294967295 by omega)]
  cases decide (l[i].ae≤e) <;> rfl) (by simp [gH,bG])
 simp only [fX,h1,Option.bind_some,h2]
theorem DD {m:List aw} (hn:m.length≤1000) (hg:∀ x∈m,iM x) {i:cy} (hi:idG i):rZ m i=some (m.filter fun x=>kid x !=idk i):=by
 have h:=oo (body:=oi m i) m (fun x=>kid x !=idk i) (fun x=>x) (fun out=>out) (fun a ha out ho=>by
  have g:=hg _ (List.getElem_mem ha)
  simp only [oi,gf ha,cond_true,bD ha,Option.bind_some,xq g.id hi,dm (gC (x:=m[a]) (show out.length≤1073741823 by omega)),cm (show a≤4294967295 by omega)]
  show (bif !(kid m[a]==idk i) then _ else _)=_
  simp only [bne]
  cases kid m[a]==idk i <;> rfl) (fun out _=>by simp [oi,bG])
 rw [rZ,h,List.map_id']
theorem Jr {m:List aw} (hn:m.length≤999) (hg:∀ x∈m,iM x) {x:aw} (hx:iM x):sr m x=some (if m.any (bars x) then (m,false) else ((m.filter fun y=>kid y !=kid x)++[x],true)):=by
 have h1:=rq (body:=ow m x) m (bars x) (Sum.inr (m,false)) (Sum.inl ()) (fun i hi=>by
  have g:=hg _ (List.getElem_mem hi)
  simp only [ow,gf hi,cond_true,bD hi,Option.bind_some,xq g.id hx.id,JE g hx,cm (show i≤4294967295 by omega),bars]
  show (bif !(kid m[i]==kid x) then _ else _)=_
  cases kid m[i]==kid x <;> cases mtB m[i] x <;> rfl) (by simp [ow,bG])
 simp only [sr,h1]
 cases hb:m.any (bars x) with
 | true=>rfl
 | false =>
  show pV m x ()=_
  have hl:=List.length_filter_le (fun y:aw=>kid y !=idk x.ID) m
  simp only [pV,DD omA hg hx.id,Option.bind_some,dm (gC (x:=x) (show (m.filter fun y=>kid y !=idk x.ID).length≤1073741823 by omega)),sv]
  rfl
theorem CY {m:List aw} (hn:m.length≤1000) (hg:∀ x∈m,iM x) {i:cy} (hi:idG i):nA m i=some (match m.find? (fun x=>kid x==idk i) with | some x=>(x,true) | none=>(dX,false)):=by
 have h:=Cp (body:=oq m i) m (fun x=>kid x==idk i) (fun x=>(x,true)) (dX,false) (fun a ha=>by
  have g:=hg _ (List.getElem_mem ha)
  simp only [oq,gf ha,cond_true,bD ha,Option.bind_some,xq g.id hi,cm (show a≤4294967295 by omega)]
  show (bif kid m[a]==idk i then _ else _)=_
  cases kid m[a]==idk i <;> rfl) (by simp [oq,bG])
 unfold nA
 rw [h]
 cases m.find? (fun x=>kid x==idk i) <;> rfl
theorem zz {l m:List aw} (hr:iC kid l) (hp:l.Perm m) (s:Int):m.find? (fun x=>kid x==s)=jK kid s l:=by
 cases h:m.find? (fun x=>kid x==s) with
 | some x =>
  have h1:=List.find?_some h
  have h2:=List.mem_of_find?_eq_some h
  exact ((ng hr).2 ⟨hp.mem_iff.2 h2,eq_of_beq h1⟩).symm
 | none =>
  refine ((zt hr).2 fun x hx e=>?_).symm
  have := List.find?_eq_none.1 h x (hp.mem_iff.1 hx)
  simp [e] at this
theorem Ap {α:Type} {l m:List α} (hp:l.Perm m) (q:α→Bool):l.any q=m.any q:=by
 rw [Bool.eq_iff_iff,List.any_eq_true,List.any_eq_true]
 exact ⟨fun ⟨x,h1,h2⟩=>⟨x,hp.mem_iff.1 h1,h2⟩,fun ⟨x,h1,h2⟩=>⟨x,hp.mem_iff.2 h1,h2⟩⟩
theorem Kq:uN []:=⟨tO,Nat.zero_le _,fun x hx=>by cases hx⟩
theorem Kw {l m:List aw} (h:uN l) (hp:l.Perm m) (x:aw):(mZ kid l x).Perm ((m.filter fun y=>kid y !=kid x)++[x]):=by
 refine (rW h.1 x).trans ?_
 exact ((hp.filter _).cons x).trans (List.perm_append_comm (l₁:=[x]))
def rk (x:bW):Int:=x.eW
def vk (x:bf):Int:=x.ae*18446744073709551616+x.Index
def vG (x:bf):Prop:=0≤x.ae∧x.ae<18446744073709551616∧0≤x.Index∧x.Index<18446744073709551616
theorem zJ {α:Type} {L:Int×Int→Option ((Int×Int) ⊕ Int)} (l:List α) (p:α→Bool) (hn:l.length≤1073741824) (hp:Ahd p l)
  (h1 : ∀ (i j k:Nat) (hk:k<l.length),i<j→k=(i+j) / 2→j≤l.length→L ((i:Int),(j:Int))=some (.inl (bif p l[k] then (((k+1:Nat):Int),(j:Int)) else ((i:Int),(k:Int)))))
  (h2 : ∀ i j:Nat,¬ i<j→L ((i:Int),(j:Int))=some (.inr (i:Int))):bA L ((0:Int),(l.length:Int))=some ((lb p l:Nat):Int):=by
 have key:=qR (body:=L) (Inv:=fun s=>∃ i j:Nat,s=((i:Int),(j:Int))∧i≤j∧j≤l.length∧(∀ a (h:a<l.length),a<i→p l[a]=true)∧(∀ a (h:a<l.length),j≤a→p l[a]=false))
  (m := fun s=>(s.2 - s.1).toNat) (Q:=fun r=>r=((lb p l:Nat):Int)) (fun s hs=>by
   obtain ⟨i,j,rfl,g1,g2,g3,g4⟩:=hs
   by_cases hij:i<j
   ·have hk:(i+j) / 2<l.length:=by omega
    refine .inl ⟨_,h1 i j _ hk hij rfl g2,?_,?_⟩
    ·cases hb:p l[(i+j) / 2] with
     | true =>
      refine ⟨(i+j) / 2+1,j,rfl,by omega,g2,fun a ha hak=>?_,g4⟩
      by_cases e:a=(i+j) / 2
      ·subst e; exact hb
      ·exact hp a _ ha hk omA hb
     | false =>
      refine ⟨i,(i+j) / 2,rfl,by omega,by omega,g3,fun a ha hak=>?_⟩
      by_cases e:a=(i+j) / 2
      ·subst e; exact hb
      ·cases hc:p l[a] with
       | false=>rfl
       | true=>rw [hp _ a hk ha omA hc] at hb; cases hb
    ·cases hb:p l[(i+j) / 2] with
     | true=>simp only [cond_true]; omega
     | false=>simp only [cond_false]; omega
   ·refine .inr ⟨_,h2 i j hij,?_⟩
    have hij':i=j:=by omega
    subst hij'
    rw [show lb p l=i from uC g2 g3 fun h=>g4 i h (Nat.le_refl _)]) (s:=((0:Int),(l.length:Int))) ⟨0,l.length,rfl,by omega,by omega,fun a _ h=>by omega,fun a h1 h2=>by omega⟩
 obtain ⟨r,h3,h4⟩:=key
 rw [h3,h4]
theorem zy {l:List bW} (h:iC rk l) (hn:l.length≤1000000) (s:Int):jl (some {rows:=l}) s=some (((pl rk s l:Nat):Int),hit rk s l):=by
 have hs:bA (jz {rows:=l} s) ((0:Int),((l.length:Nat):Int))=some ((lb (lo rk s) l:Nat):Int):=by
  refine zJ l (lo rk s) omA (h.ahd s) (fun i j k hk hij hke hj=>?_) (fun i j hij=>?_)
  ·have e1:decide ((i:Int)<(j:Int))=true:=by simpa using hij
   have e2:=yl (i:=i) (j:=j) omA
   rw [← hke] at e2
   simp only [jz,e1,cond_true,e2,bD hk,Option.bind_some]
   have e3:IntKind.i64.wrap ((k:Int)+(1:Int))=((k+1:Nat):Int):=wrap_add (a:=k) (b:=1) omA
   by_cases hl:l[k].eW<s
   ·have : ¬ l[k].eW≥s:=by omega
    simp [lo,rk,hl,e3,this]
   ·have : l[k].eW≥s:=by omega
    simp [lo,rk,hl,this]
  ·have e1:decide ((i:Int)<(j:Int))=false:=by simpa using hij
   simp only [jz,e1,cond_false,bG,Option.map_some]
 simp only [jl,hs,Option.bind_some]
 rw [show lb (lo rk s) l=pl rk s l from rfl]
 unfold hit
 by_cases hk:pl rk s l<l.length
 ·have e1:decide (((pl rk s l:Nat):Int)<(l.length:Int))=true:=by simpa using hk
  rw [e1,cond_true,bD hk,Option.bind_some,List.getElem?_eq_getElem hk]
  rfl
 ·have e1:decide (((pl rk s l:Nat):Int)<(l.length:Int))=false:=by simpa using hk
  rw [e1,cond_false,List.getElem?_eq_none omA]
theorem FN {a b:bf} (ha:vG a) (hb:vG b):vk a<vk b↔a.ae<b.ae∨(a.ae=b.ae∧a.Index<b.Index):=by
 obtain ⟨a1,a2,a3,a4⟩:=ha
 obtain ⟨b1,b2,b3,b4⟩:=hb
 unfold vk
 omega
theorem Jk {a b:bf} (ha:vG a) (hb:vG b):vk a=vk b↔a.ae=b.ae∧a.Index=b.Index:=by
 obtain ⟨a1,a2,a3,a4⟩:=ha
 obtain ⟨b1,b2,b3,b4⟩:=hb
 unfold vk
 omega
theorem Ib {a b:bf} (ha:vG a) (hb:vG b):se a b.ae b.Index=some (decide (vk a<vk b)):=by
 have h:decide (vk a<vk b)=decide (a.ae<b.ae∨(a.ae=b.ae∧a.Index<b.Index)):=by simp only [FN ha hb]
 rw [h]
 unfold se
 by_cases h1:a.ae<b.ae
 ·simp [h1]
 ·by_cases h2:a.ae=b.ae
  ·simp [h2]
  ·have h3:(a.ae==b.ae)=false:=by simpa using h2
   simp [h1,h2,h3]
theorem MF {r:bW} {v:bf} (hr:iC vk r.l) (hg:∀ x∈r.l,vG x) (gv:vG v) (hn:r.l.length≤1000000):bA (kg r v) ((0:Int),((r.l.length:Nat):Int))=some ((pl vk (vk v) r.l:Nat):Int):=by
 refine zJ r.l (lo vk (vk v)) omA (hr.ahd _) (fun i j k hk hij hke hj=>?_) (fun i j hij=>?_)
 ·have e1:decide ((i:Int)<(j:Int))=true:=by simpa using hij
  have e2:=yl (i:=i) (j:=j) omA
  rw [← hke] at e2
  simp only [kg,e1,cond_true,e2,bD hk,Option.bind_some,Ib (hg _ (List.getElem_mem hk)) gv]
  have e3:IntKind.i64.wrap ((k:Int)+(1:Int))=((k+1:Nat):Int):=wrap_add (a:=k) (b:=1) omA
  by_cases hl:vk r.l[k]<vk v
  ·simp [lo,hl,e3]
  ·simp [lo,hl]
 ·have e1:decide ((i:Int)<(j:Int))=false:=by simpa using hij
  simp only [kg,e1,cond_false,bG,Option.map_some]
theorem Js {α:Type} {k:α→Int} {l:List α} {x:α}:(mZ k l x)[pl k (k x) l]?=some x:=by
 unfold mZ
 have h:=zf k (k x) l
 have e:(l.take (pl k (k x) l)).length=pl k (k x) l:=by rw [List.length_take]; omega
 rw [List.getElem?_append_right omA,e,Nat.sub_self]; rfl
theorem FV {α:Type} {k:α→Int} {l:List α} {x y:α} (h:k x=k y):(mZ k l x).set (pl k (k x) l) y=mZ k l y:=by
 unfold mZ
 rw [← h]
 have h:=zf k (k x) l
 have e:(l.take (pl k (k x) l)).length=pl k (k x) l:=by rw [List.length_take]; omega
 rw [List.set_append_right _ _ omA,e,Nat.sub_self]; rfl
def clr (v:bf):bf:={v with Val:=if v.Del then [] else v.Val}
def qb (l:List bW) (r:Int):List bf:=match jK rk r l with | some x=>x.l | none=>[]
def En (l:List bW) (r:Int) (v:bf):List bW:=mZ rk l {eW:=r,l:=mZ vk (qb l r) v}
structure Good (n:Nat) (l:List bW):Prop where
 rJ : iC rk l
 len : l.length≤n
 vr : ∀ x∈l,iC vk x.l
 vg : ∀ x∈l,∀ v∈x.l,vG v
 vl : ∀ x∈l,x.l.length≤n
theorem MJ {x:bW} {v:bf} {z:List Int} (hr:iC vk x.l) (hg:∀ y∈x.l,vG y) (gv:vG v) (hn:x.l.length≤1000000) (t:Int×Bool) (rows:List bW) (hx:dC rows t.1=some x) :
  mw t v z {rows:=rows}=some (some {rows:=rows.set t.1.toNat {eW:=x.eW,l:=mZ vk x.l {v with Val:=z}}}):=by
 have e0:vk {v with Val:=z}=vk v:=rfl
 simp only [mw,hx,Option.bind_some,MF hr hg gv hn]
 have hj:hit vk (vk v) x.l=false→lY x ((pl vk (vk v) x.l:Nat):Int) v z {rows:=rows} t ()=some (some {rows:=rows.set t.1.toNat {eW:=x.eW,l:=mZ vk x.l {v with Val:=z}}}):=fun hh=>by
  simp only [lY,fb]
  rw [dm (wV (x:=({v with Val:=z}:bf)) (vk v) omA),Option.bind_some]
  have := wZ (k:=vk) (l:=x.l) (x:={v with Val:=z}) (by rw [e0]; exact hh)
  rw [e0] at this
  rw [this]
 by_cases hk:pl vk (vk v) x.l<x.l.length
 ·rw [gf hk,cond_true,bD hk,Option.bind_some]
  have hvg:=hg _ (List.getElem_mem hk)
  by_cases he:vk x.l[pl vk (vk v) x.l]=vk v
  ·obtain ⟨q1,q2⟩:=(Jk hvg gv).1 he
   have hh:hit vk (vk v) x.l=true:=by unfold hit; rw [List.getElem?_eq_getElem hk]; simpa using he
   have hs:=Am (k:=vk) (l:=x.l) (x:={v with Val:=z}) (by rw [e0]; exact hh)
   rw [e0] at hs
   simp only [q1,q2,beq_self_eq_true,cond_true,Int.toNat_natCast]
   rw [show ({v with Val:=z}:bf)={v with Val:=z} from rfl,hs]
   rfl
  ·have hh:hit vk (vk v) x.l=false:=by unfold hit; rw [List.getElem?_eq_getElem hk]; simpa using he
   rw [← hj hh]
   by_cases q1:x.l[pl vk (vk v) x.l].ae=v.ae
   ·have q2:¬ x.l[pl vk (vk v) x.l].Index=v.Index:=fun q2=>he ((Jk hvg gv).2 ⟨q1,q2⟩)
    have b1:(x.l[pl vk (vk v) x.l].ae==v.ae)=true:=by simpa using q1
    have b2:(x.l[pl vk (vk v) x.l].Index==v.Index)=false:=by simpa using q2
    simp only [b1,b2,cond_true,cond_false]
    rfl
   ·have b1:(x.l[pl vk (vk v) x.l].ae==v.ae)=false:=by simpa using q1
    simp only [b1,cond_false]
    rfl
 ·have hk':=zf vk (vk v) x.l
  have e:pl vk (vk v) x.l=x.l.length:=by omega
  have hh:hit vk (vk v) x.l=false:=by unfold hit; rw [List.getElem?_eq_none omA]
  rw [← hj hh]
  have : decide (((pl vk (vk v) x.l:Nat):Int)<((x.l.length:Nat):Int))=false:=by rw [e]; simp
  rw [this,cond_false]
  rfl
theorem It {n:Nat} {l:List bW} (g:Good n l) (hn:n≤1000000) {a:Nat} (ha:isF a) {v:bf} (gv:vG v) (hv:v.Val.length≤1000000) :
  jT (some {rows:=l}) a v=some (some {rows:=En l (aO a) (clr v)}):=by
 have hl:=g.len
 simp only [jT,fg]
 rw [dm (room_le (by simp only [List.length_nil]; omega)),Option.bind_some]
 have e1:(bif v.Del then (some ([]:List Int)) else some v.Val)=some (clr v).Val:=by unfold clr; cases v.Del <;> rfl
 rw [e1,Option.bind_some]
 simp only [oD,mJ ha,Option.bind_some,zy g.rJ (show l.length≤1000000 by omega)]
 have e2:({v with Val:=(clr v).Val}:bf)=clr v:=rfl
 cases hh:hit rk (aO a) l with
 | true =>
  obtain ⟨hk,h1,h2⟩:=ml hh
  have hm:=List.getElem_mem hk
  simp only [Bool.not_true,cond_false,Option.bind_some]
  rw [MJ (x:=l[pl rk (aO a) l]) (g.vr _ hm) (g.vg _ hm) gv (by have:=g.vl _ hm; omega) _ _ (bD hk),e2]
  have hs:=Am (k:=rk) (l:=l) (x:={eW:=aO a,l:=mZ vk (qb l (aO a)) (clr v)}) hh
  show _=some (some ({rows:=En l (aO a) (clr v)}:cn))
  unfold En
  rw [← hs]
  have e3:qb l (aO a)=l[pl rk (aO a) l].l:=by unfold qb; rw [h2]
  rw [e3]
  have e4:l[pl rk (aO a) l].eW=aO a:=h1
  rw [e4]
  rfl
 | false =>
  simp only [Bool.not_false,cond_true,Option.bind_some,gq]
  rw [dm (wV (x:=({eW:=aO a,l:=[]}:bW)) (aO a) omA),Option.bind_some]
  have hi:=wZ (k:=rk) (l:=l) (x:={eW:=aO a,l:=[]}) hh
  rw [show rk ({eW:=aO a,l:=[]}:bW)=aO a from rfl] at hi
  rw [hi,Option.bind_some]
  have hp:=Js (k:=rk) (l:=l) (x:={eW:=aO a,l:=[]})
  rw [MJ (x:={eW:=aO a,l:=[]}) tO (fun y h=>by cases h) gv (by simp) _ _ (by rw [wi]; exact hp),e2]
  have hs:=FV (k:=rk) (l:=l) (x:={eW:=aO a,l:=[]}) (y:={eW:=aO a,l:=mZ vk [] (clr v)}) rfl
  have e3:qb l (aO a)=[]:=by
   unfold qb
   have : jK rk (aO a) l=none:=by simp [jK,hh]
   rw [this]
  unfold En
  rw [e3,← hs]
  rfl
def ver (x:aP):bf:={ae:=x.ae,Index:=x.Index,Del:=x.Del,Val:=x.Val}
def vC (x:aP):Int×bf:=(aO x.At,ver x)
def ky (p:Int×bf):Int×Int:=(p.1,vk p.2)
def ma (l:List bW):List (Int×bf):=l.flatMap fun r=>r.l.map fun v=>(r.eW,v)
def xG (x:aP):Prop:=isF x.At∧vG (ver x)∧x.Val.length≤256∧U8s x.Val
def clx (x:aP):aP:={x with Val:=if x.Del then [] else x.Val}
def yr (k:Int×Int) (p:Int×bf):Bool:=!(decide (ky p=k))
structure Inv (n:Nat) (l:List bW) (m:List aP):Prop where
 rJ : iC rk l
 ne : ∀ x∈l,x.l≠[]
 vr : ∀ x∈l,iC vk x.l
 pm : (ma l).Perm (m.map vC)
 xg : ∀ x∈m,xG x
 cl : ∀ x∈m,x.Del=true→x.Val=[]
 nd : (m.map fun x=>ky (vC x)).Nodup
 AT : m.length≤n
theorem wK {l:List bW} {p:Int×bf}:p∈ma l↔∃ x∈l,x.eW=p.1∧p.2∈x.l:=by
 unfold ma
 rw [List.mem_flatMap]
 constructor
 ·rintro ⟨x,hx,hp⟩
  obtain ⟨v,hv,rfl⟩:=List.mem_map.1 hp
  exact ⟨x,hx,rfl,hv⟩
 ·rintro ⟨x,hx,h1,h2⟩
  exact ⟨x,hx,List.mem_map.2 ⟨p.2,h2,by rw [h1]⟩⟩
theorem AH:∀ {l:List bW},(∀ x∈l,x.l≠[])→l.length≤(ma l).length
 | [],_=>Nat.zero_le _
 | x::l,h=>by
  have h1:=AH (l:=l) fun y hy=>h y (by simp [hy])
  have h2:0<x.l.length:=List.length_pos_iff.2 (h x (by simp))
  show _≤(((x.l.map fun v=>(x.eW,v))++ma l).length)
  rw [List.length_append,List.length_map,List.length_cons]
  omega
theorem Cf:∀ {l:List bW},∀ x∈l,x.l.length≤(ma l).length
 | [],x,h=>by cases h
 | y::l,x,h=>by
  show _≤(((y.l.map fun v=>(y.eW,v))++ma l).length)
  rw [List.length_append,List.length_map]
  rcases List.mem_cons.1 h with rfl | h
  ·omega
  ·have := Cf (l:=l) x h; omega
theorem Inv.size {n:Nat} {l:List bW} {m:List aP} (h:Inv n l m):(ma l).length=m.length:=by rw [h.pm.length_eq,List.length_map]
theorem Inv.Ab {n:Nat} {l:List bW} {m:List aP} (h:Inv n l m):Good n l where
 rJ := h.rJ
 len := by have:=AH h.ne; have:=h.size; have:=h.AT; omega
 vr := h.vr
 vg := fun x hx v hv=>by
  have h1:(x.eW,v)∈m.map vC:=h.pm.mem_iff.1 (wK.2 ⟨x,hx,rfl,hv⟩)
  obtain ⟨y,hy,e⟩:=List.mem_map.1 h1
  have e2:ver y=v:=congrArg Prod.snd e
  rw [← e2]; exact (h.xg y hy).2.1
 vl := fun x hx=>by have:=Cf x hx; have:=h.size; have:=h.AT; omega
theorem BR {l k:List bW} (h:l.Perm k):(ma l).Perm (ma k):=List.Perm.flatMap_right _ h
theorem GX {l:List bW} (hr:iC rk l) (r:Int):l.Perm ((jK rk r l).toList++l.filter (fun x=>rk x !=r)):=by
 rw [lX hr]
 unfold sf
 cases hh:hit rk r l with
 | false =>
  have e:pr rk r l=pl rk r l:=by simp [pr,hh]
  have e2:jK rk r l=none:=by simp [jK,hh]
  rw [e,e2,List.take_append_drop]; exact List.Perm.refl _
 | true =>
  obtain ⟨hk,h3,h4⟩:=ml hh
  have e:pr rk r l=pl rk r l+1:=by simp [pr,hh]
  rw [e,h4]
  have h5:l=l.take (pl rk r l)++l[pl rk r l]::l.drop (pl rk r l+1):=by rw [← List.drop_eq_getElem_cons hk,List.take_append_drop]
  have h6:(l.take (pl rk r l)++l[pl rk r l]::l.drop (pl rk r l+1)).Perm (l[pl rk r l]::(l.take (pl rk r l)++l.drop (pl rk r l+1))):=List.perm_middle
  rw [← h5] at h6
  exact h6
theorem lp {l:List bW} (hr:iC rk l) (r:Int):(ma l).Perm ((qb l r).map (fun v=>(r,v))++ma (l.filter (fun x=>rk x !=r))):=by
 have h1:=BR (GX hr r)
 have h2:ma ((jK rk r l).toList++l.filter (fun x=>rk x !=r))=(qb l r).map (fun v=>(r,v))++ma (l.filter (fun x=>rk x !=r)):=by
  unfold ma
  rw [List.flatMap_append]
  congr 1
  unfold qb
  cases e:jK rk r l with
  | none=>rfl
  | some x =>
   have e2:x.eW=r:=((ng hr).1 e).2
   simp [e2]
 rwa [h2] at h1
theorem Ee {l:List bW} {r:Int} {p:Int×bf} (h:p∈ma (l.filter (fun x=>rk x !=r))):p.1≠r:=by
 obtain ⟨x,hx,h1,_⟩:=wK.1 h
 have := (List.mem_filter.1 hx).2
 rw [← h1]
 simpa [rk] using this
theorem xr {l:List bW} (hr:iC rk l) (hv:∀ x∈l,iC vk x.l) (r:Int):iC vk (qb l r):=by
 unfold qb
 cases e:jK rk r l with
 | none=>exact tO
 | some x=>exact hv x ((ng hr).1 e).1
theorem JK {l:List bW} (hr:iC rk l) (hv:∀ x∈l,iC vk x.l) (r:Int) (v:bf):(ma (En l r v)).Perm ((r,v)::(ma l).filter (yr (r,vk v))):=by
 have h1:=BR (rW hr {eW:=r,l:=mZ vk (qb l r) v})
 have h2:ma ({eW:=r,l:=mZ vk (qb l r) v}::l.filter (fun y=>rk y !=rk {eW:=r,l:=mZ vk (qb l r) v}))=(mZ vk (qb l r) v).map (fun w=>(r,w))++ma (l.filter (fun x=>rk x !=r)):=rfl
 rw [h2] at h1
 have h3:=(rW (xr hr hv r) v).map (fun w=>(r,w))
 have h4:=(lp hr r).filter (yr (r,vk v))
 rw [List.filter_append] at h4
 have h5:(ma (l.filter (fun x=>rk x !=r))).filter (yr (r,vk v))=ma (l.filter (fun x=>rk x !=r)):=List.filter_eq_self.2 fun p hp=>by
  have := Ee hp
  simp [yr,ky,this]
 have h6:((qb l r).map (fun w=>(r,w))).filter (yr (r,vk v))=((qb l r).filter (fun y=>vk y !=vk v)).map (fun w=>(r,w)):=by
  rw [List.filter_map]
  congr 1
  refine List.filter_congr fun w _=>?_
  simp [yr,ky,bne]
  rfl
 rw [h5,h6] at h4
 refine h1.trans ?_
 refine (h3.append_right _).trans ?_
 rw [List.map_cons,List.cons_append]
 exact (h4.symm).cons _
theorem zK {m:List aP} {x:aP} (hm:∀ y∈m,isF y.At) (hx:isF x.At) (hn:m.length≤1000000) (gm:∀ y∈m,vG (ver y)) (gx:vG (ver x)) :
  rT m x=some (m.filter (fun y=>yr (ky (vC x)) (vC y))++[clx x]):=by
 have h:=oo (body:=pD m x) m (fun y=>yr (ky (vC x)) (vC y)) id id (fun i hi out ho=>by
  have hmi:=List.getElem_mem hi
  simp only [pD,gf hi,cond_true,bD hi,Option.bind_some,rn (hm _ hmi) hx,cm (show i≤4294967295 by omega),dm (gC (xs:=out) (x:=m[i]) omA)]
  have hk:yr (ky (vC x)) (vC m[i]) = !(decide (aO m[i].At=aO x.At)&&(decide (m[i].ae=x.ae)&&decide (m[i].Index=x.Index))):=by
   unfold yr
   congr 1
   rw [Bool.eq_iff_iff]
   simp only [decide_eq_true_eq,Bool.and_eq_true,ky,vC,Prod.mk.injEq,Jk (gm _ hmi) gx]
   exact Iff.rfl
  rw [hk]
  by_cases h1:aO m[i].At=aO x.At
  ·by_cases h2:m[i].ae=x.ae
   ·by_cases h3:m[i].Index=x.Index
    ·simp [h1,h2,h3]
    ·have b3:(m[i].Index !=x.Index)=true:=by simpa using h3
     simp [h1,h2,h3,b3]
   ·have b2:(m[i].ae !=x.ae)=true:=by simpa using h2
    simp [h1,h2,b2]
  ·simp [h1]) (fun out ho=>by simp [pD,bG])
 simp only [rT,h,Option.bind_some,tu]
 have e1:(bif x.Del then (some ([]:List Int)) else some x.Val)=some (clx x).Val:=by unfold clx; cases x.Del <;> rfl
 rw [e1,Option.bind_some]
 simp only [tt]
 have hl:=List.length_filter_le (fun y=>yr (ky (vC x)) (vC y)) m
 rw [dm (gC (by simp only [id,List.length_map]; omega))]
 simp [clx]
theorem KW (x:aP):vC (clx x)=(aO x.At,clr (ver x)):=rfl
theorem JS {x:aP} (h:xG x):xG (clx x):=by
 obtain ⟨h1,h2,h3,h4⟩:=h
 refine ⟨h1,h2,?_,?_⟩
 ·unfold clx; split
  ·simp
  ·exact h3
 ·unfold clx; split
  ·intro y hy; cases hy
  ·exact h4
theorem Gl {n:Nat} {l:List bW} {m:List aP} (h:Inv n l m) (hn:n≤10000) {x:aP} (gx:xG x) :
  jT (some {rows:=l}) x.At (ver x)=some (some {rows:=En l (aO x.At) (clr (ver x))}) ∧
  ∃ m',rT m x=some m'∧Inv (n+1) (En l (aO x.At) (clr (ver x))) m':=by
 refine ⟨It h.Ab omA gx.1 gx.2.1 (by have:=gx.2.2.1; show x.Val.length≤_; omega),_,zK (fun y hy=>(h.xg y hy).1) gx.1 (by have:=h.AT; omega) (fun y hy=>(h.xg y hy).2.1) gx.2.1,?_⟩
 have hvr:=xr h.rJ h.vr (aO x.At)
 refine ⟨tG h.rJ _,fun y hy=>?_,fun y hy=>?_,?_,fun y hy=>?_,fun y hy=>?_,?_,?_⟩
 ·rcases (lx h.rJ _ y).1 hy with rfl | ⟨h1,_⟩
  ·intro e
   have := (lx hvr (clr (ver x)) (clr (ver x))).2 (.inl rfl)
   have e':mZ vk (qb l (aO x.At)) (clr (ver x))=[]:=e
   rw [e'] at this; cases this
  ·exact h.ne y h1
 ·rcases (lx h.rJ _ y).1 hy with rfl | ⟨h1,_⟩
  ·exact tG hvr _
  ·exact h.vr y h1
 ·refine (JK h.rJ h.vr _ _).trans ?_
  rw [List.map_append,List.map_cons,List.map_nil,KW]
  have h1:=(h.pm.filter (yr (aO x.At,vk (clr (ver x)))))
  rw [List.filter_map] at h1
  refine List.Perm.trans ?_ List.perm_append_comm
  exact h1.cons _
 ·rcases List.mem_append.1 hy with hy | hy
  ·exact h.xg y (List.mem_filter.1 hy).1
  ·rw [List.mem_singleton.1 hy]; exact JS gx
 ·rcases List.mem_append.1 hy with hy | hy
  ·exact h.cl y (List.mem_filter.1 hy).1
  ·rw [List.mem_singleton.1 hy]; intro hd; have hd:x.Del=true:=hd; show (if x.Del then [] else x.Val)=[]; rw [if_pos hd]
 ·rw [List.map_append,List.map_cons,List.map_nil]
  refine List.nodup_append.2 ⟨List.Nodup.sublist (List.Sublist.map _ List.filter_sublist) h.nd,by simp,fun a ha b hb=>?_⟩
  obtain ⟨y,hy,rfl⟩:=List.mem_map.1 ha
  rw [List.mem_singleton.1 hb]
  have := (List.mem_filter.1 hy).2
  exact fun e=>by rw [show ky (vC (clx x))=ky (vC x) from rfl] at e; simp [yr,e] at this
 ·have := List.length_filter_le (fun y=>yr (ky (vC x)) (vC y)) m
  have := h.AT
  rw [List.length_append,List.length_singleton]; omega
def Lm (r:Int) (m:List aP):List bf:=(m.filter (fun y=>decide (aO y.At=r))).map ver
theorem De {r:Int} {m:List aP} {v:bf}:v∈Lm r m↔∃ y∈m,aO y.At=r∧ver y=v:=by
 simp only [Lm,List.mem_map,List.mem_filter,decide_eq_true_eq,and_assoc]
theorem Ar {n:Nat} {l:List bW} {m:List aP} (h:Inv n l m) (r:Int):(qb l r).Perm (Lm r m):=by
 have h1:=(lp h.rJ r).filter (fun p=>decide (p.1=r))
 rw [List.filter_append] at h1
 have e1:((qb l r).map (fun v=>(r,v))).filter (fun p=>decide (p.1=r))=(qb l r).map (fun v=>(r,v)):=List.filter_eq_self.2 fun p hp=>by
  obtain ⟨v,_,rfl⟩:=List.mem_map.1 hp; simp
 have e2:(ma (l.filter (fun x=>rk x !=r))).filter (fun p=>decide (p.1=r))=[]:=List.filter_eq_nil_iff.2 fun p hp=>by
  have := Ee hp; simpa using this
 rw [e1,e2,List.append_nil] at h1
 have h2:=(h1.symm.trans (h.pm.filter (fun p=>decide (p.1=r)))).map Prod.snd
 rw [List.map_map,List.filter_map,List.map_map] at h2
 rw [show (Prod.snd ∘ fun v:bf=>(r,v))=id from rfl,List.map_id] at h2
 exact h2
theorem Et {α:Type} {k:α→Int} {l:List α} (h:iC k l) {a b:α} (ha:a∈l) (hb:b∈l) (e:k a=k b):a=b:=by
 obtain ⟨i,hi,rfl⟩:=List.mem_iff_getElem.1 ha
 obtain ⟨j,hj,rfl⟩:=List.mem_iff_getElem.1 hb
 rcases Nat.lt_trichotomy i j with h1 | h1 | h1
 ·have := h.lt hi hj h1; omega
 ·subst h1; rfl
 ·have := h.lt hj hi h1; omega
def zO (L:List bf) (e:Int):Option bf→Prop
 | none=>∀ v∈L,e<v.ae
 | some v=>v∈L∧v.ae≤e∧∀ w∈L,w.ae≤e→vk w≤vk v
def xZ:Option bf→cC
 | none=>{Has:=false,Val:=[]}
 | some v=>bif v.Del then {Has:=false,Val:=[]} else {Has:=true,Val:=v.Val}
theorem Ge {L K:List bf} {e:Int} {o p:Option bf} (hL:iC vk L) (hp:L.Perm K) (h1:zO L e o) (h2:zO K e p):o=p:=by
 cases o with
 | none =>
  cases p with
  | none=>rfl
  | some v=>have:=h1 v (hp.mem_iff.2 h2.1); have:=h2.2.1; omega
 | some v =>
  cases p with
  | none=>have:=h2 v (hp.mem_iff.1 h1.1); have:=h1.2.1; omega
  | some w =>
   have a:=h1.2.2 w (hp.mem_iff.2 h2.1) h2.2.1
   have b:=h2.2.2 v (hp.mem_iff.1 h1.1) h1.2.1
   rw [Et hL h1.1 (hp.mem_iff.2 h2.1) omA]
def upto (e:Int) (v:bf):Bool:=decide (v.ae≤e)
theorem IG {L:List bf} (hr:iC vk L) (hg:∀ v∈L,vG v) (e:Int):Ahd (upto e) L:=fun a b ha hb hab hp=>by
 have h1:=(FN (hg _ (List.getElem_mem ha)) (hg _ (List.getElem_mem hb))).1 (hr.lt ha hb hab)
 simp only [upto,decide_eq_true_eq] at hp ⊢
 omega
theorem KH {F:Int×Int→Option ((Int×Int) ⊕ Int)} {L:List bf} (e:Int) (hr:iC vk L) (hg:∀ v∈L,vG v) (hn:L.length≤1000000)
  (hF : ∀ s,F s=(match s with | (i,j)=>(bif (decide (i<j)) then (((dC L (IntKind.i64.wrap (js .u64 (IntKind.u64.wrap (IntKind.i64.wrap (i+j))) (1:Int)))).bind fun x=>(some (decide (x.ae>e)))).bind fun z=>(bif (!z) then (some (Sum.inl ((IntKind.i64.wrap ((IntKind.i64.wrap (js .u64 (IntKind.u64.wrap (IntKind.i64.wrap (i+j))) (1:Int)))+(1:Int))),j))) else (some (Sum.inl (i,(IntKind.i64.wrap (js .u64 (IntKind.u64.wrap (IntKind.i64.wrap (i+j))) (1:Int)))))))) else (bG (some i))))) :
  bA F ((0:Int),((L.length:Nat):Int))=some ((lb (upto e) L:Nat):Int):=by
 refine zJ L (upto e) omA (IG hr hg e) (fun i j k hk hij hke hj=>?_) (fun i j hij=>?_)
 ·have e1:decide ((i:Int)<(j:Int))=true:=by simpa using hij
  have e2:=yl (i:=i) (j:=j) omA
  rw [← hke] at e2
  simp only [hF,e1,cond_true,e2,bD hk,Option.bind_some]
  have e3:IntKind.i64.wrap ((k:Int)+(1:Int))=((k+1:Nat):Int):=wrap_add (a:=k) (b:=1) omA
  by_cases hl:L[k].ae≤e
  ·have : ¬ L[k].ae>e:=by omega
   simp [upto,hl,e3,this]
  ·have : L[k].ae>e:=by omega
   simp [upto,hl,this]
 ·have e1:decide ((i:Int)<(j:Int))=false:=by simpa using hij
  simp only [hF,e1,cond_false,bG,Option.map_some]
theorem Me {L:List bf} (e:Int) (hr:iC vk L) (hg:∀ v∈L,vG v):(lb (upto e) L=0∧zO L e none)∨(∃ h:lb (upto e) L - 1<L.length,0<lb (upto e) L∧zO L e (some L[lb (upto e) L - 1])):=by
 have hle:=Cm (upto e) L
 have hge:∀ i (h:i<L.length),lb (upto e) L≤i→e<L[i].ae:=fun i h hi=>by
  have hk:lb (upto e) L<L.length:=by omega
  have h1:upto e L[lb (upto e) L]=false:=JW hk
  have h2:e<L[lb (upto e) L].ae:=by simpa [upto] using h1
  rcases Nat.eq_or_lt_of_le hi with h3 | h3
  ·subst h3; exact h2
  ·have := (FN (hg _ (List.getElem_mem hk)) (hg _ (List.getElem_mem h))).1 (hr.lt hk h h3); omega
 by_cases h0:lb (upto e) L=0
 ·refine .inl ⟨h0,fun v hv=>?_⟩
  obtain ⟨i,hi,rfl⟩:=List.mem_iff_getElem.1 hv
  exact hge i hi omA
 ·have hk:lb (upto e) L - 1<L.length:=by omega
  refine .inr ⟨hk,by omega,List.getElem_mem hk,?_,fun w hw hwe=>?_⟩
  ·have := HQ (p:=upto e) (l:=L) (a:=lb (upto e) L - 1) omA
   simpa [upto] using this
  ·obtain ⟨i,hi,rfl⟩:=List.mem_iff_getElem.1 hw
   have hil:i<lb (upto e) L:=by
    rcases Nat.lt_or_ge i (lb (upto e) L) with h | h
    ·exact h
    ·have := hge i hi h; omega
   rcases Nat.eq_or_lt_of_le (show i≤lb (upto e) L - 1 by omega) with h | h
   ·subst h; exact Int.le_refl _
   ·have := hr.lt hi hk h; omega
theorem sw {L:List bf} (e:Int) (hr:iC vk L) (hg:∀ v∈L,vG v) (hn:L.length≤1000000) (hv:∀ v∈L,v.Val.length≤1000000):∃ o,zO L e o∧rU L e=some (xZ o):=by
 have h:=KH (F:=tx L e) e hr hg hn fun s=>rfl
 simp only [rU,h,Option.bind_some]
 rcases Me e hr hg with ⟨h0,ht⟩ | ⟨hk,h0,ht⟩
 ·refine ⟨none,ht,?_⟩
  rw [h0]; rfl
 ·refine ⟨_,ht,?_⟩
  have hle:=Cm (upto e) L
  have e1:((((lb (upto e) L:Nat):Int))==(0:Int))=false:=by simp; omega
  have e2:IntKind.i64.wrap ((((lb (upto e) L:Nat):Int)) - (1:Int))=((lb (upto e) L - 1:Nat):Int):=sM (a:=lb (upto e) L) (b:=1) omA omA
  rw [e1,cond_false,e2,bD hk,Option.bind_some]
  rw [show xZ (some L[lb (upto e) L - 1])=(bif L[lb (upto e) L - 1].Del then {Has:=false,Val:=[]} else {Has:=true,Val:=L[lb (upto e) L - 1].Val}) from rfl]
  cases hd:L[lb (upto e) L - 1].Del with
  | true=>rfl
  | false =>
   simp only [cond_false,fg]
   rw [dm (room_le (by have:=hv _ (List.getElem_mem hk); simp only [List.length_nil]; omega))]
   rfl
theorem Inv.Mv {n:Nat} {l:List bW} {m:List aP} (h:Inv n l m) (r:Int):(qb l r).length≤n:=by
 rw [(Ar h r).length_eq]
 have := List.length_filter_le (fun y:aP=>decide (aO y.At=r)) m
 have := h.AT
 simp only [Lm,List.length_map]; omega
theorem Inv.Mw {n:Nat} {l:List bW} {m:List aP} (h:Inv n l m) {r:Int} {v:bf} (hv:v∈qb l r):vG v∧v.Val.length≤256∧U8s v.Val:=by
 obtain ⟨y,hy,_,rfl⟩:=De.1 ((Ar h r).mem_iff.1 hv)
 exact (h.xg y hy).2
theorem IX {n:Nat} {l:List bW} {m:List aP} (h:Inv n l m) (hn:n≤10000) {a:Nat} (ha:isF a) (e:Int):∃ o,zO (qb l (aO a)) e o∧fv (some {rows:=l}) a e=some (xZ o):=by
 obtain ⟨o,h1,h2⟩:=sw e (xr h.rJ h.vr (aO a)) (fun v hv=>(h.Mw hv).1) (by have:=h.Mv (aO a); omega) (fun v hv=>by have:=(h.Mw hv).2.1; omega)
 have hl:=h.Ab.len
 simp only [fv,mJ ha,Option.bind_some,zy h.rJ (show l.length≤1000000 by omega)]
 cases hh:hit rk (aO a) l with
 | false =>
  have e3:qb l (aO a)=[]:=by
   unfold qb
   have : jK rk (aO a) l=none:=by simp [jK,hh]
   rw [this]
  rw [e3]
  exact ⟨none,fun v hv=>(by cases hv),rfl⟩
 | true =>
  obtain ⟨hk,h3,h4⟩:=ml hh
  have e3:qb l (aO a)=l[pl rk (aO a) l].l:=by unfold qb; rw [h4]
  refine ⟨o,h1,?_⟩
  simp only [Bool.not_true,cond_false,bD hk,Option.bind_some]
  rw [← e3,h2]; rfl
def JJ (r e:Int) (y:aP):Prop:=aO y.At=r∧y.ae≤e
def Cu (m:List aP) (r e:Int) (i:Nat) (k:Int):Prop:=(k = -1∧∀ j (h:j<m.length),j<i→¬ JJ r e m[j])∨(∃ a,∃ ha:a<m.length,k=(a:Int)∧JJ r e m[a]∧∀ j (h:j<m.length),j<i→JJ r e m[j]→vk (ver m[j])≤vk (ver m[a]))
theorem HA {m:List aP} (hx:∀ y∈m,xG y) (hn:m.length≤1000000) {a:Nat} (ha:isF a) (e:Int):∃ k,tW m a e=some k∧Cu m (aO a) e m.length k:=by
 unfold tW
 refine qR (body:=om m a e) (Inv:=fun s=>∃ i:Nat,s.2=(i:Int)∧i≤m.length∧Cu m (aO a) e i s.1) (m:=fun s=>(m.length - s.2).toNat) (Q:=fun k=>Cu m (aO a) e m.length k) (fun s hs=>?_) ⟨0,rfl,Nat.zero_le _,.inl ⟨rfl,fun j _ h=>by omega⟩⟩
 obtain ⟨k,z⟩:=s
 obtain ⟨i,rfl,hi,hT⟩:=hs
 by_cases hil:i<m.length
 ·have hmi:=List.getElem_mem hil
  simp only [om,gf hil,cond_true,bD hil,Option.bind_some,rn (hx _ hmi).1 ha,cm (show i≤4294967295 by omega)]
  have keep:¬ JJ (aO a) e m[i]→Cu m (aO a) e (i+1) k:=fun hnm=>by
   rcases hT with ⟨h1,h2⟩ | ⟨b,hb,h1,h2,h3⟩
   ·refine .inl ⟨h1,fun j hj hji=>?_⟩
    rcases Nat.lt_or_ge j i with h | h
    ·exact h2 j hj h
    ·have : j=i:=by omega
     subst this; exact hnm
   ·refine .inr ⟨b,hb,h1,h2,fun j hj hji hm=>?_⟩
    rcases Nat.lt_or_ge j i with h | h
    ·exact h3 j hj h hm
    ·have : j=i:=by omega
     subst this; exact absurd hm hnm
  have fin:∀ k':Int,Cu m (aO a) e (i+1) k'→∃ s',(some (Sum.inl (k',((i+1:Nat):Int))):Option ((Int×Int) ⊕ Int))=some (.inl s')∧(∃ i:Nat,s'.2=(i:Int)∧i≤m.length∧Cu m (aO a) e i s'.1)∧(m.length - s'.2).toNat<(m.length - (i:Int)).toNat:=fun k' hk'=>⟨_,rfl,⟨i+1,rfl,by omega,hk'⟩,by show ((m.length:Int) - ((i+1:Nat):Int)).toNat<_; omega⟩
  left
  by_cases h1:aO m[i].At=aO a
  ·by_cases h2:m[i].ae≤e
   ·have hmat:JJ (aO a) e m[i]:=⟨h1,h2⟩
    rcases hT with ⟨h3,h4⟩ | ⟨b,hb,h3,h4,h5⟩
    ·subst h3
     have := fin (i:Int) (.inr ⟨i,hil,rfl,hmat,fun j hj hji hm=>by
      rcases Nat.lt_or_ge j i with h | h
      ·exact absurd hm (h4 j hj h)
      ·have : j=i:=by omega
       subst this; exact Int.le_refl _⟩)
     simpa [h1,h2] using this
    ·subst h3
     have hg1:=(hx _ (List.getElem_mem hb)).2.1
     have hg2:=(hx _ hmi).2.1
     have hb0:¬ ((b:Int)<0):=by omega
     have hlt:=FN hg1 hg2
     by_cases h6:vk (ver m[b])<vk (ver m[i])
     ·have := fin (i:Int) (.inr ⟨i,hil,rfl,hmat,fun j hj hji hm=>by
       rcases Nat.lt_or_ge j i with h | h
       ·have := h5 j hj h hm; omega
       ·have : j=i:=by omega
        subst this; exact Int.le_refl _⟩)
      have h7:m[b].ae<m[i].ae∨(m[b].ae=m[i].ae∧m[b].Index<m[i].Index):=hlt.1 h6
      by_cases h8:m[b].ae<m[i].ae
      ·simpa [h1,h2,hb0,bD hb,h8] using this
      ·have h9:=h7.resolve_left h8
       simpa [h1,h2,hb0,bD hb,h9.1,h9.2] using this
     ·have := fin (b:Int) (.inr ⟨b,hb,rfl,h4,fun j hj hji hm=>by
       rcases Nat.lt_or_ge j i with h | h
       ·exact h5 j hj h hm
       ·have : j=i:=by omega
        subst this; omega⟩)
      have h7:¬ (m[b].ae<m[i].ae∨(m[b].ae=m[i].ae∧m[b].Index<m[i].Index)):=fun h=>h6 (hlt.2 h)
      have h8:¬ m[b].ae<m[i].ae:=fun h=>h7 (.inl h)
      by_cases h9:m[b].ae=m[i].ae
      ·have h10:¬ m[b].Index<m[i].Index:=fun h=>h7 (.inr ⟨h9,h⟩)
       simpa [h1,h2,hb0,bD hb,h9,h10] using this
      ·have h11:(m[b].ae==m[i].ae)=false:=by simpa using h9
       simpa [h1,h2,hb0,bD hb,h8,h11] using this
   ·have := fin k (keep fun h=>h2 h.2)
    simpa [h1,h2] using this
  ·have := fin k (keep fun h=>h1 h.1)
   simpa [h1] using this
 ·have e1:i=m.length:=by omega
  subst e1
  refine .inr ⟨k,?_,hT⟩
  simp [om,bG]
theorem GG {m:List aP} (hx:∀ y∈m,xG y) (hn:m.length≤1000000) {a:Nat} (ha:isF a) (e:Int):∃ o,zO (Lm (aO a) m) e o∧lf m a e=some (xZ o):=by
 obtain ⟨k,h1,h2⟩:=HA hx hn ha e
 simp only [lf,h1,Option.bind_some]
 rcases h2 with ⟨rfl,h3⟩ | ⟨b,hb,rfl,h4,h5⟩
 ·refine ⟨none,fun v hv=>?_,rfl⟩
  obtain ⟨y,hy,h6,rfl⟩:=De.1 hv
  obtain ⟨j,hj,rfl⟩:=List.mem_iff_getElem.1 hy
  have := h3 j hj hj
  rcases Int.lt_or_le e (ver m[j]).ae with h | h
  ·exact h
  ·exact absurd ⟨h6,h⟩ this
 ·refine ⟨some (ver m[b]),⟨De.2 ⟨_,List.getElem_mem hb,h4.1,rfl⟩,h4.2,fun w hw hwe=>?_⟩,?_⟩
  ·obtain ⟨y,hy,h6,rfl⟩:=De.1 hw
   obtain ⟨j,hj,rfl⟩:=List.mem_iff_getElem.1 hy
   exact h5 j hj hj ⟨h6,hwe⟩
  ·have hb0:decide ((b:Int)<0)=false:=by simp
   rw [hb0,cond_false,bD hb,Option.bind_some]
   rw [show xZ (some (ver m[b]))=(bif m[b].Del then {Has:=false,Val:=[]} else {Has:=true,Val:=m[b].Val}) from rfl]
   cases m[b].Del <;> rfl
theorem uP {n:Nat} {l:List bW} {m:List aP} (h:Inv n l m) (hn:n≤10000) {a:Nat} (ha:isF a) (e:Int):∃ o,zO (qb l (aO a)) e o∧fv (some {rows:=l}) a e=some (xZ o)∧lf m a e=some (xZ o):=by
 obtain ⟨o,h1,h2⟩:=IX h hn ha e
 obtain ⟨p,h3,h4⟩:=GG h.xg (by have:=h.AT; omega) ha e
 have : o=p:=Ge (xr h.rJ h.vr _) (Ar h _) h1 h3
 subst this
 exact ⟨o,h1,h2,h4⟩
theorem GC (g:cC):iS [g] [g]=some true:=by
 have h:=dW (body:=gV [g] [g]) (fun i=>(i:Int)) 1 true (fun i hi=>by
  have : i=0:=by omega
  subst this
  simp [gV,dC,sc,cm (i:=0)]
  rfl) (by simp [gV,bG])
 have e:((([g]:List cC).length:Int) !=(([g]:List cC).length:Int))=false:=by simp
 unfold iS
 rw [e,cond_false]
 exact h
end Go.Proofs.YtgnkkopjkgdieaaGreat
