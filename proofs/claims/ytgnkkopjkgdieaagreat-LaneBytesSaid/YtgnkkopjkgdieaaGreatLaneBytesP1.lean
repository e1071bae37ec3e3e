/- A part of the proof. -/
import Derived.Test.YtgnkkopjkgdieaaGreatLaneBytesGw
import Derived.Test.YtgnkkopjkgdieaaGreatLaneBytesP0
set_option linter.unusedVariables false
set_option linter.unusedSimpArgs false
set_option maxRecDepth 100000
namespace Go.Proofs.YtgnkkopjkgdieaaGreat
open Go Go.V
def TP {α:Type} (f:aB→Option (α×aB)) (P:α→Prop):Prop:=∀ t,uh t→∃ x t',f t=some (x,t')∧P x∧uh t'
theorem TP.ret {α:Type} {P:α→Prop} {x:α} (h:P x):TP (fun r=>some (x,r)) P:=fun r hr=>⟨x,r,rfl,h,hr⟩
theorem TP.bind {α β:Type} {f:aB→Option (α×aB)} {g:α×aB→Option (β×aB)} {P:α→Prop} {Q:β→Prop} (hf:TP f P) (hg:∀ x,P x→TP (fun r=>g (x,r)) Q):TP (fun r=>(f r).bind g) Q:=fun r hr=>by
 obtain ⟨x,r',h1,h2,h3⟩:=hf r hr
 obtain ⟨y,r2,k1,k2,k3⟩:=hg x h2 r' h3
 exact ⟨y,r2,by show (f r).bind g=_; rw [h1,Option.bind_some]; exact k1,k2,k3⟩
theorem TP.of {α:Type} {f g:aB→Option (α×aB)} {P:α→Prop} (h:∀ r,f r=g r) (hg:TP g P):TP f P:=fun r hr=>by rw [h]; exact hg r hr
theorem TP.imp {α:Type} {f:aB→Option (α×aB)} {P Q:α→Prop} (hf:TP f P) (h:∀ x,P x→Q x):TP f Q:=fun r hr=>by
 obtain ⟨x,r',h1,h2,h3⟩:=hf r hr
 exact ⟨x,r',h1,h x h2,h3⟩
theorem TP.next (n:Int) (h:0<n:=by decide) (h2:n≤1000000000:=by decide):TP (fun t=>aY t n) (fun v=>0≤v∧v<n):=fun t ht=>by
 obtain ⟨v,t',a,b,c,d,_⟩:=FH ht h h2
 exact ⟨v,t',a,⟨b,c⟩,d⟩
def isN (x:Nat):Prop:=isF x∧cf x=x
theorem TP.float:TP (fun t=>dL t) isN:=fun t ht=>by
 obtain ⟨f,t',a,b,c⟩:=EW ht
 exact ⟨f,t',a,⟨b.1,Gm b.1 b.2⟩,c⟩
section
variable {α S R:Type} {body:S→Option (S ⊕ R)} (st:aB→List α→Int→S) (out:aB→List α→R) {F:Int→aB→Option (α×aB)}
theorem TP.loop {P:α→Prop} (n:Int) (hn:n≤1000000) (h0:0≤n) (hF:∀ i,0≤i→i<n→TP (F i) P)
  (hb : ∀ r acc i,i<n→body (st r acc i)=(F i r).bind fun t=>gd (room acc [t.1]) (some (Sum.inl (st t.2 (acc++[t.1]) (IntKind.i64.wrap (i+(1:Int)))))))
  (hend : ∀ r acc i,¬ i<n→body (st r acc i)=some (Sum.inr (out r acc))) (r:aB) (hr:uh r) :
  ∃ r' acc,bA body (st r [] (0:Int))=some (out r' acc)∧uh r'∧(∀ x∈acc,P x)∧(acc.length:Int)≤n:=by
 have key:∀ (k:Nat) (r:aB) (acc:List α) (i:Int),uh r→(acc.length:Int)=i→i≤n→(∀ x∈acc,P x)→(n - i).toNat≤k→∃ r' acc',bA body (st r acc i)=some (out r' acc')∧uh r'∧(∀ x∈acc',P x)∧(acc'.length:Int)≤n:=by
  intro k
  induction k with
  | zero =>
   intro r acc i hr ha hi hP hk
   have hni:¬ i<n:=by omega
   exact ⟨r,acc,by rw [fJ,hend r acc i hni]; rfl,hr,hP,by omega⟩
  | succ k ih =>
   intro r acc i hr ha hi hP hk
   by_cases hlt:i<n
   ·obtain ⟨x,r',h1,h2,h3⟩:=hF i omA hlt r hr
    have e1:IntKind.i64.wrap (i+(1:Int))=i+1:=by rw [wrap_i64] <;> omega
    obtain ⟨r2,acc2,g1,g2,g3,g4⟩:=ih r' (acc++[x]) (i+1) h3 (by simp only [List.length_append,List.length_cons,List.length_nil]; omega) omA (fun y hy=>by
     rcases List.mem_append.1 hy with hy | hy
     ·exact hP y hy
     ·cases List.mem_singleton.1 hy; exact h2) omA
    refine ⟨r2,acc2,?_,g2,g3,g4⟩
    rw [fJ,hb r acc i hlt,h1,Option.bind_some,dl (room_le (by simp only [List.length_cons,List.length_nil]; omega)),e1]
    exact g1
   ·exact ⟨r,acc,by rw [fJ,hend r acc i hlt]; rfl,hr,hP,by omega⟩
 exact key (n - 0).toNat r [] 0 hr rfl h0 (fun x hx=>by cases hx) (Nat.le_refl _)
theorem TP.yd {γ:Type} {P:α→Prop} {Q:γ→Prop} {fin:R→Option (γ×aB)} (n:Int) (hn:n≤1000000) (h0:0≤n) (hF:∀ i,0≤i→i<n→TP (F i) P)
  (hb : ∀ r acc i,i<n→body (st r acc i)=(F i r).bind fun t=>gd (room acc [t.1]) (some (Sum.inl (st t.2 (acc++[t.1]) (IntKind.i64.wrap (i+(1:Int)))))))
  (hend : ∀ r acc i,¬ i<n→body (st r acc i)=some (Sum.inr (out r acc)))
  (hfin : ∀ acc,(∀ x∈acc,P x)→(acc.length:Int)≤n→TP (fun r=>fin (out r acc)) Q):TP (fun r=>(bA body (st r [] (0:Int))).bind fin) Q:=fun r hr=>by
 obtain ⟨r',acc,h1,h2,h3,h4⟩:=TP.loop st out n hn h0 hF hb hend r hr
 obtain ⟨y,r2,k1,k2,k3⟩:=hfin acc h3 h4 r' h2
 exact ⟨y,r2,by show (bA body (st r [] (0:Int))).bind fin=_; rw [h1,Option.bind_some]; exact k1,k2,k3⟩
end
theorem TP.val:TP (fun t=>gB t) (fun l=>l.length≤3∧U8s l):=by
 refine TP.of (g:=fun t=>(aY t (4:Int)).bind fun u=>(bA (iT u) (u.2,[],(0:Int))).bind fun s=>some s) (fun t=>bnd fun u=>(vH _).symm) ?_
 refine TP.bind (TP.next 4) fun n hn r hr=>?_
 refine TP.yd (P:=zI) (body:=iT (n,r)) (F:=fun _ t=>(aY t (26:Int)).bind fun u=>some (IntKind.u8.wrap (IntKind.i64.wrap ((97:Int)+u.1)),u.2)) (fun t acc i=>(t,acc,i)) (fun t acc=>(acc,t)) n omA hn.1 (fun i _ _=>?_) (fun t acc i hi=>?_) (fun t acc i hi=>?_) (fun acc h1 h2=>?_) r hr
 ·refine TP.bind (TP.next 26) fun v hv=>?_
  dsimp only
  have e1:IntKind.i64.wrap ((97:Int)+v)=97+v:=by rw [wrap_i64] <;> omega
  have e2:IntKind.u8.wrap (97+v)=97+v:=by rw [wrap_u8] <;> omega
  rw [e1,e2]
  exact TP.ret ⟨by omega,by omega⟩
 ·have e:decide (i<n)=true:=by simpa using hi
  simp only [iT,e,cond_true,Option.bind_assoc,Option.bind_some]
 ·have e:decide (i<n)=false:=by simpa using hi
  simp only [iT,e,cond_false,bG,Option.map_some]
 ·exact TP.ret ⟨by omega,h1⟩
theorem LV {m:Nat} {v:Int} (h0:0≤v) (h:v<((256 ^ m:Nat):Int)):isU m v:=⟨h0,h⟩
theorem map_id' {β:Type} {l:List β} {f:β→β} (h:∀ x∈l,f x=x):l.map f=l:=by
 induction l with
 | nil=>rfl
 | cons x l ih=>rw [List.map_cons,h x siA,ih fun y hy=>h y (by simp [hy])]
theorem xn {v:Int} (h0:0≤v) (h:v<256):isU 8 (IntKind.u64.wrap v):=by rw [jV h0 omA]; exact ⟨h0,by rw [pw8]; omega⟩
theorem uJ {v:Int} (h0:0≤v) (h:v<256):isU 8 (IntKind.u64.wrap (IntKind.i64.wrap ((1:Int)+v))):=by
 have e:IntKind.i64.wrap ((1:Int)+v)=1+v:=by rw [wrap_i64] <;> omega
 rw [e,jV omA omA]
 exact ⟨by omega,by rw [pw8]; omega⟩
theorem TP.of_:TP (fun t=>fN t) idG:=by
 refine TP.bind (TP.next 4) fun a ha=>?_
 dsimp only
 refine TP.bind (TP.next 4) fun b hb=>?_
 dsimp only
 exact TP.ret (P:=idG) ⟨xn ha.1 omA,uJ hb.1 omA⟩
theorem half {v:Int} (h:0≤v∧v<3):0≤IntKind.i64.wrap (Int.tdiv v 2)∧IntKind.i64.wrap (Int.tdiv v 2)≤1:=by
 have : v=0∨v=1∨v=2:=by omega
 rcases this with rfl | rfl | rfl <;> decide
def Jj (h:aw):Prop:=iM h∧nf h=h
theorem Jw {l:List Nat} (h:∀ x∈l,isN x):l.map cf=l:=by
 rw [List.map_congr_left (g:=id) fun x hx=>(h x hx).2,List.map_id]
def rt:aB:={L:=[],I:=0}
theorem Kl (t:aB):ku t=(fN t).bind fun id=>(aY id.2 (4:Int)).bind fun ep=>(aY ep.2 (3:Int)).bind fun n=>(bA (ig (n.1,rt)) ([],n.2,(0:Int))).bind fun s=>(aY s.1 (3:Int)).bind fun m=>(bA (iz (m.1,rt)) ([],m.2,(0:Int))).bind fun s2=>(aY s2.1 (3:Int)).bind fun k=>(bA (iq (k.1,rt)) ([],k.2,(0:Int))).bind fun s3=>(aY s3.1 (4:Int)).bind fun d=>(bif d.1==(0:Int) then gB d.2 else some ([],d.2)).bind fun v=>some (({ID:=id.1,ae:=IntKind.u64.wrap (IntKind.i64.wrap ((1:Int)+ep.1)),dO:=s.2,aX:=s2.2,dD:=s3.2,Data:=v.1}:aw),v.2):=by
 unfold ku
 refine bnd fun id=>bnd fun ep=>bnd fun n=>bnd ?_
 rintro ⟨t1,g⟩
 refine bnd fun m=>bnd ?_
 rintro ⟨t2,s⟩
 refine bnd fun k=>bnd ?_
 rintro ⟨t3,p⟩
 refine bnd fun d=>?_
 cases d.1==(0:Int) <;> rfl
theorem TP.hold:TP (fun t=>ku t) Jj:=by
 refine TP.of Kl ?_
 refine TP.bind TP.of_ fun id hid=>?_
 dsimp only
 refine TP.bind (TP.next 4) fun ep hep=>?_
 dsimp only
 refine TP.bind (TP.next 3) fun n hn=>?_
 dsimp only
 refine TP.yd (P:=isN) (body:=ig (n,rt)) (F:=fun _ t=>dL t) (fun t acc i=>(acc,t,i)) (fun t acc=>(t,acc)) n omA hn.1 (fun i _ _=>TP.float) (fun t acc i hi=>?_) (fun t acc i hi=>?_) (fun gets g1 g2=>?_)
 ·have e:decide (i<n)=true:=by simpa using hi
  simp only [ig,e,cond_true]
 ·have e:decide (i<n)=false:=by simpa using hi
  simp only [ig,e,cond_false,bG,Option.map_some]
 dsimp only
 refine TP.bind (TP.next 3) fun m hm=>?_
 dsimp only
 obtain ⟨q1,q2⟩:=half hm
 refine TP.yd (P:=fun x:Nat×Nat=>isN x.1∧isN x.2) (body:=iz (m,rt)) (F:=fun _ t=>(dL t).bind fun a=>(dL a.2).bind fun b=>some ((a.1,b.1),b.2)) (fun t acc i=>(acc,t,i)) (fun t acc=>(t,acc)) (IntKind.i64.wrap (Int.tdiv m 2)) omA q1 (fun i _ _=>?_) (fun t acc i hi=>?_) (fun t acc i hi=>?_) (fun scans s1 s2=>?_)
 ·refine TP.bind TP.float fun a ha=>?_
  dsimp only
  refine TP.bind TP.float fun b hb=>?_
  dsimp only
  exact TP.ret (P:=fun x:Nat×Nat=>isN x.1∧isN x.2) ⟨ha,hb⟩
 ·have e:decide (i<IntKind.i64.wrap (Int.tdiv m 2))=true:=by simpa using hi
  simp only [iz,e,cond_true,Option.bind_assoc,Option.bind_some]
 ·have e:decide (i<IntKind.i64.wrap (Int.tdiv m 2))=false:=by simpa using hi
  simp only [iz,e,cond_false,bG,Option.map_some]
 dsimp only
 refine TP.bind (TP.next 3) fun k hk=>?_
 dsimp only
 refine TP.yd (P:=isN) (body:=iq (k,rt)) (F:=fun _ t=>dL t) (fun t acc i=>(acc,t,i)) (fun t acc=>(t,acc)) k omA hk.1 (fun i _ _=>TP.float) (fun t acc i hi=>?_) (fun t acc i hi=>?_) (fun puts p1 p2=>?_)
 ·have e:decide (i<k)=true:=by simpa using hi
  simp only [iq,e,cond_true]
 ·have e:decide (i<k)=false:=by simpa using hi
  simp only [iq,e,cond_false,bG,Option.map_some]
 dsimp only
 refine TP.bind (TP.next 4) fun d hd=>?_
 dsimp only
 refine TP.bind (P:=fun l=>l.length≤3∧U8s l) ?_ fun v hv=>?_
 ·cases d==(0:Int) with
  | true=>exact TP.val
  | false=>exact TP.ret ⟨by decide,U8s.nil⟩
 dsimp only
 refine TP.ret (P:=Jj) ⟨⟨hid.1,hid.2,uJ hep.1 omA,fun x hx=>(g1 x hx).1,fun x hx=>⟨(s1 x hx).1.1,(s1 x hx).2.1⟩,fun x hx=>(p1 x hx).1,?_,?_,?_,?_,hv.2⟩,?_⟩
 ·show gets.length≤32; omega
 ·show scans.length≤32; omega
 ·show puts.length≤32; omega
 ·show v.length≤257; omega
 ·have e:scans.map rR=scans:=by
   rw [List.map_congr_left (g:=_root_.id) fun x hx=>by show (cf x.1,cf x.2)=x; rw [(s1 x hx).1.2,(s1 x hx).2.2],List.map_id]
  simp only [nf,Jw g1,Jw p1,e]
def FQ (l:List bK):Prop:=qT l∧tw l=l
theorem TP.writes:TP (fun t=>hY t) FQ:=by
 refine TP.of (g:=fun t=>(aY t (3:Int)).bind fun u=>(bA (iV (u.1,rt)) (u.2,[],(0:Int))).bind fun s=>some s) (fun t=>bnd fun u=>(vH _).symm) ?_
 refine TP.bind (TP.next 3) fun n hn=>?_
 dsimp only
 refine TP.yd (P:=fun x=>CK x∧zA x=x) (body:=iV (n,rt)) (F:=fun _ t=>(dL t).bind fun f=>(aY f.2 (4:Int)).bind fun d=>(bif !(d.1==(0:Int)) then gB d.2 else some ([],d.2)).bind fun v=>some (({At:=f.1,Del:=d.1==(0:Int),Val:=v.1}:bK),v.2)) (fun t acc i=>(t,acc,i)) (fun t acc=>(acc,t)) n omA hn.1 (fun i _ _=>?_) (fun t acc i hi=>?_) (fun t acc i hi=>?_) (fun acc h1 h2=>?_)
 ·refine TP.bind TP.float fun f hf=>?_
  dsimp only
  refine TP.bind (TP.next 4) fun d hd=>?_
  dsimp only
  refine TP.bind (P:=fun l=>l.length≤3∧U8s l) ?_ fun v hv=>?_
  ·cases !(d==(0:Int)) with
   | true=>exact TP.val
   | false=>exact TP.ret ⟨by decide,U8s.nil⟩
  dsimp only
  refine TP.ret (P:=fun x=>CK x∧zA x=x) ⟨⟨hf.1,?_,hv.2⟩,?_⟩
  ·show v.length≤256; omega
  ·simp only [zA,hf.2]
 ·have e:decide (i<n)=true:=by simpa using hi
  simp only [iV,e,cond_true,Option.bind_assoc]
  refine bnd fun f=>bnd fun d=>?_
  cases !(d.1==(0:Int)) with
  | true=>simp only [cond_true,Option.bind_assoc]; exact bnd fun v=>rfl
  | false=>rfl
 ·have e:decide (i<n)=false:=by simpa using hi
  simp only [iV,e,cond_false,bG,Option.map_some]
 ·refine TP.ret (P:=FQ) ⟨⟨by omega,fun x hx=>(h1 x hx).1⟩,?_⟩
  rw [tw,List.map_congr_left (g:=_root_.id) fun x hx=>(h1 x hx).2,List.map_id]
def Bq (x:bB):Prop:=td x∧tc x=x
theorem HA (t:aB):jL t=(aY t (6:Int)).bind fun e=>(dC ([(0:Int),(0:Int),(0:Int),(8:Int),(9:Int),(3:Int)]) e.1).bind fun x=>(aY e.2 (4:Int)).bind fun p=>(aY p.2 (9:Int)).bind fun q=>(aY q.2 (3:Int)).bind fun n=>(bA (ju (n.1,rt)) ([],n.2,(0:Int))).bind fun s=>(aY s.1 (3:Int)).bind fun m=>(bA (jy (m.1,rt) x (IntKind.u64.wrap p.1) (IntKind.u64.wrap q.1) s.2) ([],m.2,(0:Int))).bind fun s=>some s:=by
 simp only [jL,Option.bind_assoc,Option.bind_some,pt]
 refine bnd fun e=>bnd fun x=>bnd fun p=>bnd fun q=>bnd fun n=>bnd ?_
 rintro ⟨t1,g⟩
 exact bnd fun m=>(vH _).symm
theorem TP.yW:TP (fun t=>jL t) Bq:=by
 refine TP.of HA ?_
 refine TP.bind (TP.next 6) fun e he=>?_
 dsimp only
 have hg:∃ x:Int,dC ([(0:Int),(0:Int),(0:Int),(8:Int),(9:Int),(3:Int)]) e=some x∧isU 1 x:=by
  have : e=0∨e=1∨e=2∨e=3∨e=4∨e=5:=by omega
  rcases this with rfl | rfl | rfl | rfl | rfl | rfl <;> exact ⟨_,rfl,by decide,by decide⟩
 obtain ⟨x,hx,hx1⟩:=hg
 simp only [hx,Option.bind_some]
 refine TP.bind (TP.next 4) fun p hp=>?_
 dsimp only
 refine TP.bind (TP.next 9) fun q hq=>?_
 dsimp only
 refine TP.bind (TP.next 3) fun n hn=>?_
 dsimp only
 refine TP.yd (P:=Jb) (body:=ju (n,rt)) (F:=fun _ t=>(aY t (2:Int)).bind fun a=>(gB a.2).bind fun v=>some (({Has:=a.1==(0:Int),Val:=v.1}:cC),v.2)) (fun t acc i=>(acc,t,i)) (fun t acc=>(t,acc)) n omA hn.1 (fun i _ _=>?_) (fun t acc i hi=>?_) (fun t acc i hi=>?_) (fun Fo g1 g2=>?_)
 ·refine TP.bind (TP.next 2) fun a ha=>?_
  dsimp only
  refine TP.bind TP.val fun v hv=>?_
  dsimp only
  exact TP.ret (P:=Jb) ⟨by show v.length≤256; omega,hv.2⟩
 ·have e:decide (i<n)=true:=by simpa using hi
  simp only [ju,e,cond_true,Option.bind_assoc,Option.bind_some]
 ·have e:decide (i<n)=false:=by simpa using hi
  simp only [ju,e,cond_false,bG,Option.map_some]
 dsimp only
 refine TP.bind (TP.next 3) fun m hm=>?_
 dsimp only
 obtain ⟨q1,q2⟩:=half hm
 refine TP.yd (P:=fun l=>CY l∧yi l=l) (body:=jy (m,rt) x (IntKind.u64.wrap p) (IntKind.u64.wrap q) Fo) (F:=fun _ t=>(aY t (3:Int)).bind fun k=>(bA (jE (k.1,rt)) (k.2,(0:Int),[])).bind fun s=>some (s.2,s.1)) (fun t acc i=>(acc,t,i)) (fun t acc=>(({E:=x,ae:=IntKind.u64.wrap p,Index:=IntKind.u64.wrap q,dT:=Fo,aX:=acc}:bB),t)) (IntKind.i64.wrap (Int.tdiv m 2)) omA q1 (fun i _ _=>?_) (fun t acc i hi=>?_) (fun t acc i hi=>?_) (fun scans s1 s2=>?_)
 ·refine TP.bind (TP.next 3) fun k hk=>?_
  dsimp only
  refine TP.yd (P:=fun y=>GF y∧Cq y=y) (body:=jE (k,rt)) (F:=fun _ t=>(dL t).bind fun f=>(gB f.2).bind fun v=>some (({At:=f.1,Val:=v.1}:bP),v.2)) (fun t acc i=>(t,i,acc)) (fun t acc=>(t,acc)) k omA hk.1 (fun i _ _=>?_) (fun t acc i hi=>?_) (fun t acc i hi=>?_) (fun l l1 l2=>?_)
  ·refine TP.bind TP.float fun f hf=>?_
   dsimp only
   refine TP.bind TP.val fun v hv=>?_
   dsimp only
   exact TP.ret (P:=fun y=>GF y∧Cq y=y) ⟨⟨hf.1,by show v.length≤256; omega,hv.2⟩,by simp only [Cq,hf.2]⟩
  ·have e:decide (i<k)=true:=by simpa using hi
   simp only [jE,e,cond_true,Option.bind_assoc,Option.bind_some]
  ·have e:decide (i<k)=false:=by simpa using hi
   simp only [jE,e,cond_false,bG,Option.map_some]
  ·refine TP.ret (P:=fun l=>CY l∧yi l=l) ⟨⟨by omega,fun y hy=>(l1 y hy).1⟩,?_⟩
   rw [yi,List.map_congr_left (g:=_root_.id) fun y hy=>(l1 y hy).2,List.map_id]
 ·have e:decide (i<IntKind.i64.wrap (Int.tdiv m 2))=true:=by simpa using hi
  simp only [jy,e,cond_true,Option.bind_assoc,Option.bind_some]
  refine bnd fun k=>bnd ?_
  rintro ⟨t1,l⟩
  rfl
 ·have e:decide (i<IntKind.i64.wrap (Int.tdiv m 2))=false:=by simpa using hi
  simp only [jy,e,cond_false,bG,Option.map_some]
 ·refine TP.ret (P:=Bq) ⟨⟨hx1,xn hp.1 omA,xn hq.1 omA,g1,fun l hl=>(s1 l hl).1,?_,?_⟩,?_⟩
  ·show Fo.length≤32; omega
  ·show scans.length≤32; omega
  ·have e1:Fo.map HH=Fo:=map_id' fun y _=>rfl
   have e2:scans.map yi=scans:=by rw [List.map_congr_left (g:=_root_.id) fun y hy=>(s1 y hy).2,List.map_id]
   simp only [tc,e1,e2]
def JP (x:dV):Prop:=Cd x∧Bi x=x
theorem TP.jW:TP (fun t=>nD t) JP:=by
 refine TP.bind (TP.next 3) fun a ha=>?_
 dsimp only
 refine TP.bind (TP.next 4) fun b hb=>?_
 dsimp only
 refine TP.bind (TP.next 4) fun c hc=>?_
 dsimp only
 refine TP.bind TP.float fun lo hlo=>?_
 dsimp only
 refine TP.bind TP.float fun hi hhi=>?_
 dsimp only
 refine TP.bind (TP.next 2) fun d hd=>?_
 dsimp only
 refine TP.bind (TP.next 3) fun e he=>?_
 dsimp only
 have hb1:isU 1 b:=⟨hb.1,by rw [pw1]; omega⟩
 have hc1:isU 1 c:=⟨hc.1,by rw [pw1]; omega⟩
 have he1:isU 4 e:=⟨he.1,by rw [pw4]; omega⟩
 exact TP.ret (P:=JP) ⟨⟨xn ha.1 omA,hb1,hc1,hlo.1,hhi.1,xn hd.1 omA,he1⟩,by simp only [Bi,hlo.2,hhi.2]⟩
def BA (c:aG):Prop:=HF c∧BH c=c
theorem Gj (t:aB):gI t=(aY t (7:Int)).bind fun a =>
  bif (IntKind.u8.wrap (IntKind.i64.wrap ((1:Int)+a.1)))==(1:Int) then (aY a.2 (4:Int)).bind fun p=>some ({zC with Kind:=IntKind.u8.wrap (IntKind.i64.wrap ((1:Int)+a.1)),ae:=IntKind.u64.wrap (IntKind.i64.wrap ((1:Int)+p.1))},p.2) else
  bif (IntKind.u8.wrap (IntKind.i64.wrap ((1:Int)+a.1)))==(2:Int) then (ku a.2).bind fun h=>some ({zC with Kind:=IntKind.u8.wrap (IntKind.i64.wrap ((1:Int)+a.1)),br:=h.1},h.2) else
  bif (IntKind.u8.wrap (IntKind.i64.wrap ((1:Int)+a.1)))==(3:Int) then (fN a.2).bind fun i=>(aY i.2 (3:Int)).bind fun e=>(dC ([(0:Int),(0:Int),(8:Int)]) e.1).bind fun x=>(aY e.2 (4:Int)).bind fun p=>(aY p.2 (20:Int)).bind fun q=>(hY q.2).bind fun w=>some ({zC with Kind:=IntKind.u8.wrap (IntKind.i64.wrap ((1:Int)+a.1)),ID:=i.1,ae:=IntKind.u64.wrap (IntKind.i64.wrap ((1:Int)+p.1)),Index:=IntKind.u64.wrap q.1,E:=x,cw:=w.1},w.2) else
  bif (IntKind.u8.wrap (IntKind.i64.wrap ((1:Int)+a.1)))==(4:Int) then (fN a.2).bind fun i=>(aY i.2 (6:Int)).bind fun b=>(aY b.2 (4:Int)).bind fun p=>(aY p.2 (4:Int)).bind fun q=>(aY q.2 (3:Int)).bind fun n=>(bA (fh (n.1,rt)) ([],n.2,(0:Int))).bind fun s=>(jL s.1).bind fun x=>some ({zC with Kind:=IntKind.u8.wrap (IntKind.i64.wrap ((1:Int)+a.1)),ID:={ab:=bif b.1==(0:Int) then IntKind.u64.wrap (i.1.ab+(9223372036854775808:Int)) else i.1.ab,Seq:=i.1.Seq},ae:=IntKind.u64.wrap (IntKind.i64.wrap ((1:Int)+p.1)),bY:=IntKind.u64.wrap q.1,dM:=s.2,R:=x.1},x.2) else
  bif (IntKind.u8.wrap (IntKind.i64.wrap ((1:Int)+a.1)))==(5:Int) then (fN a.2).bind fun i=>some ({zC with Kind:=IntKind.u8.wrap (IntKind.i64.wrap ((1:Int)+a.1)),ID:=i.1},i.2) else
  bif (IntKind.u8.wrap (IntKind.i64.wrap ((1:Int)+a.1)))==(6:Int) then (nD a.2).bind fun r=>(aY r.2 (3:Int)).bind fun o=>some ({zC with Kind:=IntKind.u8.wrap (IntKind.i64.wrap ((1:Int)+a.1)),ap:=r.1,On:=decide (o.1>(0:Int))},o.2) else
  bif (IntKind.u8.wrap (IntKind.i64.wrap ((1:Int)+a.1)))==(7:Int) then (fN a.2).bind fun i=>(aY i.2 (4:Int)).bind fun p=>(nD p.2).bind fun r=>(hY r.2).bind fun w=>(jL w.2).bind fun x=>some ({zC with Kind:=IntKind.u8.wrap (IntKind.i64.wrap ((1:Int)+a.1)),ID:=i.1,ae:=IntKind.u64.wrap (IntKind.i64.wrap ((1:Int)+p.1)),ap:=r.1,cw:=w.1,R:=x.1},x.2) else
  some ({zC with Kind:=IntKind.u8.wrap (IntKind.i64.wrap ((1:Int)+a.1))},a.2):=by
 unfold gI
 refine bnd fun a=>?_
 generalize hk:IntKind.u8.wrap (IntKind.i64.wrap ((1:Int)+a.1))=k
 cases k==(1:Int) with
 | true=>rfl
 | false =>
 cases k==(2:Int) with
 | true=>rfl
 | false =>
 cases k==(3:Int) with
 | true=>rfl
 | false =>
 cases k==(4:Int) with
 | true =>
  simp only [cond_true,cond_false,Option.bind_assoc]
  refine bnd fun i=>bnd fun b=>?_
  cases b.1==(0:Int) with
  | true =>
   simp only [cond_true,Option.bind_some,lz]
   refine bnd fun p=>bnd fun q=>bnd fun n=>bnd ?_
   rintro ⟨t1,l⟩
   subst hk; rfl
  | false =>
   simp only [cond_false,Option.bind_some,lz]
   refine bnd fun p=>bnd fun q=>bnd fun n=>bnd ?_
   rintro ⟨t1,l⟩
   subst hk; rfl
 | false =>
 cases k==(5:Int) with
 | true=>rfl
 | false =>
 cases k==(6:Int) with
 | true=>rfl
 | false =>
 cases k==(7:Int) with
 | true=>rfl
 | false=>rfl
theorem TP.command:TP (fun t=>gI t) BA:=by
 refine TP.of Gj ?_
 refine TP.bind (TP.next 7) fun a ha=>?_
 dsimp only
 have ek:IntKind.u8.wrap (IntKind.i64.wrap ((1:Int)+a))=1+a:=by
  rw [wrap_i64 omA omA,wrap_u8] <;> omega
 rw [ek]
 have hh:∀ h:aw,nf h=h→BH {zC with Kind:=2,br:=h}={zC with Kind:=2,br:=h}:=fun h e=>by simp only [BH,if_true,if_false,Int.reduceEq,e]
 have : a=0∨a=1∨a=2∨a=3∨a=4∨a=5∨a=6:=by omega
 rcases this with rfl | rfl | rfl | rfl | rfl | rfl | rfl
 ·refine TP.bind (TP.next 4) fun p hp=>?_
  dsimp only
  exact TP.ret (P:=BA) ⟨⟨kd 1 deA,⟨u0 8,u0 8⟩,uJ hp.1 omA,u0 8,u0 1,Hm,Iu,Iw,u0 2,Nat.zero_le _,ia,IE⟩,rfl⟩
 ·refine TP.bind TP.hold fun h hh=>?_
  dsimp only
  exact TP.ret (P:=BA) ⟨⟨kd 2 deA,⟨u0 8,u0 8⟩,u0 8,u0 8,u0 1,hh.1,Iu,Iw,u0 2,Nat.zero_le _,ia,IE⟩,by show ({zC with Kind:=2,br:=nf h}:aG)=_; rw [hh.2]; rfl⟩
 ·refine TP.bind TP.of_ fun i hi=>?_
  dsimp only
  refine TP.bind (TP.next 3) fun e he=>?_
  dsimp only
  have hg:∃ x:Int,dC ([(0:Int),(0:Int),(8:Int)]) e=some x∧isU 1 x:=by
   have : e=0∨e=1∨e=2:=by omega
   rcases this with rfl | rfl | rfl <;> exact ⟨_,rfl,by decide,by decide⟩
  obtain ⟨x,hx,hx1⟩:=hg
  simp only [hx,Option.bind_some]
  refine TP.bind (TP.next 4) fun p hp=>?_
  dsimp only
  refine TP.bind (TP.next 20) fun q hq=>?_
  dsimp only
  refine TP.bind TP.writes fun w hw=>?_
  dsimp only
  exact TP.ret (P:=BA) ⟨⟨kd 3 deA,hi,uJ hp.1 omA,xn hq.1 omA,hx1,Hm,hw.1,Iw,u0 2,Nat.zero_le _,ia,IE⟩,by show ({zC with Kind:=3,ID:=cId i,E:=x,ae:=_,Index:=_,cw:=tw w}:aG)=_; rw [hw.2]; rfl⟩
 ·refine TP.bind TP.of_ fun i hi=>?_
  dsimp only
  refine TP.bind (TP.next 6) fun b hb=>?_
  dsimp only
  refine TP.bind (TP.next 4) fun p hp=>?_
  dsimp only
  refine TP.bind (TP.next 4) fun q hq=>?_
  dsimp only
  refine TP.bind (TP.next 3) fun n hn=>?_
  dsimp only
  refine TP.yd (P:=fun y=>BQ y∧vQ y=y) (body:=fh (n,rt)) (F:=fun i t=>(hY t).bind fun w=>some (({oD:=i,cw:=w.1}:dN),w.2)) (fun t acc i=>(acc,t,i)) (fun t acc=>(t,acc)) n omA hn.1 (fun j j0 j1=>?_) (fun t acc i hi=>?_) (fun t acc i hi=>?_) (fun parts p1 p2=>?_)
  ·refine TP.bind TP.writes fun w hw=>?_
   dsimp only
   exact TP.ret (P:=fun y=>BQ y∧vQ y=y) ⟨⟨LV (m:=1) j0 (by rw [pw1]; show j<256; omega),hw.1⟩,by simp only [vQ,hw.2]⟩
  ·have e:decide (i<n)=true:=by simpa using hi
   simp only [fh,e,cond_true,Option.bind_assoc,Option.bind_some]
  ·have e:decide (i<n)=false:=by simpa using hi
   simp only [fh,e,cond_false,bG,Option.map_some]
  dsimp only
  refine TP.bind TP.yW fun x hx=>?_
  dsimp only
  have hid:idG {ab:=bif b==(0:Int) then IntKind.u64.wrap (i.ab+(9223372036854775808:Int)) else i.ab,Seq:=i.Seq}:=by
   refine ⟨?_,hi.2⟩
   cases b==(0:Int) with
   | false=>exact hi.1
   | true =>
    show isU 8 (IntKind.u64.wrap (i.ab+(9223372036854775808:Int)))
    rw [kO]
    exact ⟨by omega,by rw [pw8]; omega⟩
  have hq2:isU 2 (IntKind.u64.wrap q):=by rw [jV omA omA]; exact ⟨hq.1,by rw [pw2]; omega⟩
  refine TP.ret (P:=BA) ⟨⟨kd 4 deA,hid,uJ hp.1 omA,u0 8,u0 1,Hm,Iu,hx.1,hq2,?_,fun y hy=>(p1 y hy).1,IE⟩,?_⟩
  ·show parts.length≤8; omega
  ·show ({zC with Kind:=4,ID:=_,ae:=_,bY:=_,dM:=parts.map vQ,R:=tc x}:aG)=_
   rw [hx.2,map_id' fun y hy=>(p1 y hy).2]; rfl
 ·refine TP.bind TP.of_ fun i hi=>?_
  dsimp only
  exact TP.ret (P:=BA) ⟨⟨kd 5 deA,hi,u0 8,u0 8,u0 1,Hm,Iu,Iw,u0 2,Nat.zero_le _,ia,IE⟩,rfl⟩
 ·refine TP.bind TP.jW fun r hr=>?_
  dsimp only
  refine TP.bind (TP.next 3) fun o ho=>?_
  dsimp only
  show TP (fun t=>some (({zC with Kind:=1+5,ap:=r,On:=decide (o>(0:Int))}:aG),t)) BA
  refine TP.ret (P:=BA) ?_
  exact ⟨⟨kd 6 deA,⟨u0 8,u0 8⟩,u0 8,u0 8,u0 1,Hm,Iu,Iw,u0 2,Nat.zero_le _,ia,hr.1⟩,by show ({zC with Kind:=6,ap:=Bi r,On:=_}:aG)=_; rw [hr.2]; rfl⟩
 ·refine TP.bind TP.of_ fun i hi=>?_
  dsimp only
  refine TP.bind (TP.next 4) fun p hp=>?_
  dsimp only
  refine TP.bind TP.jW fun r hr=>?_
  dsimp only
  refine TP.bind TP.writes fun w hw=>?_
  dsimp only
  refine TP.bind TP.yW fun x hx=>?_
  dsimp only
  exact TP.ret (P:=BA) ⟨⟨kd 7 deA,hi,uJ hp.1 omA,u0 8,u0 1,Hm,hw.1,hx.1,u0 2,Nat.zero_le _,ia,hr.1⟩,by show ({zC with Kind:=7,ID:=cId i,ae:=_,ap:=Bi r,cw:=tw w,R:=tc x}:aG)=_; rw [hr.2,hw.2,hx.2]; rfl⟩
theorem Du {x a b:Nat} (hx:isF x) (ha:isF a) (hb:isF b):ov x a b=some (decide (aO a≤aO x)&&decide (aO x≤aO b)):=by
 simp only [ov,mN ha,mN hx,mN hb,Option.bind_some]
 cases decide (aO a≤aO x) <;> rfl
theorem Jd {x y:Nat} (hx:isF x) (hy:isF y):kN x y=some (aO x==aO y):=by simp only [kN,mN hx,mN hy,Option.bind_some]
theorem Ip {x a b:Nat} (hx:isF x) (ha:isF a) (hb:isF b):mq x a b=some (decide (aO a≤aO x)&&decide (aO x≤aO b)):=by
 simp only [mq,sP hx ha,sP hb hx,Option.bind_some]
 by_cases h1:aO x<aO a
 ·have : ¬ aO a≤aO x:=by omega
  simp [h1,this]
 ·by_cases h2:aO b<aO x
  ·have : ¬ aO x≤aO b:=by omega
   have h3:aO a≤aO x:=by omega
   simp [h1,h2,this]
  ·have h3:aO x≤aO b:=by omega
   have h4:aO a≤aO x:=by omega
   simp [h1,h2,h3,h4]
def Db (h:aw) (x:Nat):Bool:=h.dD.any fun y=>aO x==aO y
def vS (h:aw) (x:Nat):Bool:=(h.dO.any fun y=>aO x==aO y)||h.aX.any fun s=>decide (aO s.1≤aO x)&&decide (aO x≤aO s.2)
def mtB (a b:aw):Bool:=(a.dD.any fun x=>Db b x||vS b x)||b.dD.any fun x=>vS a x
theorem Ha {h:aw} (g:iM h) {x:Nat} (hx:isF x):re h x x=some (Db h x):=by
 obtain ⟨_,_,_,g4,g5,g6,l1,l2,l3,_⟩:=g
 obtain ⟨z,h1,h2⟩:=yL (body:=lM h x x) h.dD (fun y=>aO x==aO y) (fun i hi=>by
  have hy:=g6 _ (List.getElem_mem hi)
  have e:(decide (aO x≤aO h.dD[i])&&decide (aO h.dD[i]≤aO x))=(aO x==aO h.dD[i]):=by
   rw [Bool.eq_iff_iff]
   simp only [Bool.and_eq_true,decide_eq_true_eq,beq_iff_eq]
   omega
  simp only [lM,gh hi,cond_true,bD hi,Option.bind_some,Du hy hx hx,e,cm (show i≤4294967295 by omega)]
  cases aO x==aO h.dD[i] <;> rfl) (by simp [lM,bG])
 simp only [re,h1,Option.bind_some,h2]; rfl
theorem Eb {h:aw} (g:iM h) {x:Nat} (hx:isF x):qM h x=some (vS h x):=by
 obtain ⟨_,_,_,g4,g5,g6,l1,l2,l3,_⟩:=g
 obtain ⟨z,h1,h2⟩:=yL (body:=nl h x) h.dO (fun y=>aO x==aO y) (fun i hi=>by
  have hy:=g4 _ (List.getElem_mem hi)
  simp only [nl,gh hi,cond_true,bD hi,Option.bind_some,Jd hx hy,cm (show i≤4294967295 by omega)]
  cases aO x==aO h.dO[i] <;> rfl) (by simp [nl,bG])
 obtain ⟨z',h3,h4⟩:=yL (body:=mW h x) h.aX (fun s=>decide (aO s.1≤aO x)&&decide (aO x≤aO s.2)) (fun i hi=>by
  have hy:=g5 _ (List.getElem_mem hi)
  simp only [mW,gh hi,cond_true,bD hi,Option.bind_some,Du hx hy.1 hy.2,cm (show i≤4294967295 by omega)]
  cases (decide (aO h.aX[i].1≤aO x)&&decide (aO x≤aO h.aX[i].2)) <;> rfl) (by simp [mW,bG])
 simp only [qM,h1,h3,Option.bind_some,h2,h4,vS]
 cases h.dO.any fun y=>aO x==aO y <;> rfl
theorem Km {a b:aw} (ga:iM a) (gb:iM b):ub a b=some (mtB a b):=by
 have h1:=rH (body:=oo a b) a.dD (fun x=>Db b x||vS b x) (Sum.inr true) (Sum.inl ()) (fun i hi=>by
  have hx:=ga.2.2.2.2.2.1 _ (List.getElem_mem hi)
  simp only [oo,gh hi,cond_true,bD hi,Option.bind_some,Ha gb hx,Eb gb hx,cm (show i≤4294967295 by have:=ga.2.2.2.2.2.2.2.2.1; omega)]
  cases Db b a.dD[i] <;> cases vS b a.dD[i] <;> rfl) (by simp [oo,bG])
 have h2:=rH (body:=oi b a) b.dD (fun x=>vS a x) true false (fun i hi=>by
  have hx:=gb.2.2.2.2.2.1 _ (List.getElem_mem hi)
  simp only [oi,gh hi,cond_true,bD hi,Option.bind_some,Eb ga hx,cm (show i≤4294967295 by have:=gb.2.2.2.2.2.2.2.2.1; omega)]
  cases vS a b.dD[i] <;> rfl) (by simp [oi,bG])
 simp only [ub,h1,mtB]
 cases a.dD.any fun x=>Db b x||vS b x with
 | true=>rfl
 | false =>
  show qn b a ()=_
  simp only [qn,h2]
  cases b.dD.any fun x=>vS a x <;> rfl
theorem JD {l:List Nat} (g:∀ x∈l,isF x) (hl:l.length≤1000) {x:Nat} (hx:isF x):tD l x=some (l.any fun y=>aO x==aO y):=by
 have h1:=rH (body:=pE l x) l (fun y=>aO x==aO y) true false (fun i hi=>by
  have hy:=g _ (List.getElem_mem hi)
  have e:decide (aO l[i]=aO x)=(aO x==aO l[i]):=by
   by_cases e1:aO x=aO l[i]
   ·simp [e1]
   ·have : ¬ aO l[i]=aO x:=fun h=>e1 h.symm
    simp [e1,this]
  simp only [pE,gh hi,cond_true,bD hi,Option.bind_some,rA hy hx,e,cm (show i≤4294967295 by omega)]
  cases aO x==aO l[i] <;> rfl) (by simp [pE,bG])
 rw [tD,h1]
 cases l.any fun y=>aO x==aO y <;> rfl
theorem BO {h:aw} (g:iM h) {x:Nat} (hx:isF x):qL h x=some (vS h x):=by
 have g':=g
 obtain ⟨_,_,_,g4,g5,g6,l1,l2,l3,_⟩:=g
 have h1:=rH (body:=mR h x) h.aX (fun s=>decide (aO s.1≤aO x)&&decide (aO x≤aO s.2)) (Sum.inr true) (Sum.inl ()) (fun i hi=>by
  have hy:=g5 _ (List.getElem_mem hi)
  simp only [mR,gh hi,cond_true,bD hi,Option.bind_some,Ip hx hy.1 hy.2,cm (show i≤4294967295 by omega)]
  cases (decide (aO h.aX[i].1≤aO x)&&decide (aO x≤aO h.aX[i].2)) <;> rfl) (by simp [mR,bG])
 simp only [qL,h1,vS]
 cases h.aX.any fun s=>decide (aO s.1≤aO x)&&decide (aO x≤aO s.2) with
 | true=>simp [hQ]
 | false =>
  show pj h x ()=_
  simp only [pj,JD g4 omA hx,Option.bind_some,Bool.or_false]
theorem IY {a b:aw} (ga:iM a) (gb:iM b):tT a b=some (mtB a b):=by
 have h1:=rH (body:=og a b) a.dD (fun x=>Db b x||vS b x) (Sum.inr true) (Sum.inl ()) (fun i hi=>by
  have hx:=ga.2.2.2.2.2.1 _ (List.getElem_mem hi)
  simp only [og,gh hi,cond_true,bD hi,Option.bind_some,JD gb.2.2.2.2.2.1 (by have:=gb.2.2.2.2.2.2.2.2.1; omega) hx,BO gb hx,cm (show i≤4294967295 by have:=ga.2.2.2.2.2.2.2.2.1; omega)]
  show (bif Db b a.dD[i] then _ else _)=_
  cases Db b a.dD[i] <;> cases vS b a.dD[i] <;> rfl) (by simp [og,bG])
 have h2:=rH (body:=ow b a) b.dD (fun x=>vS a x) true false (fun i hi=>by
  have hx:=gb.2.2.2.2.2.1 _ (List.getElem_mem hi)
  simp only [ow,gh hi,cond_true,bD hi,Option.bind_some,BO ga hx,cm (show i≤4294967295 by have:=gb.2.2.2.2.2.2.2.2.1; omega)]
  cases vS a b.dD[i] <;> rfl) (by simp [ow,bG])
 simp only [tT,h1,mtB]
 cases a.dD.any fun x=>Db b x||vS b x with
 | true=>rfl
 | false =>
  show qm b a ()=_
  simp only [qm,h2]
  cases b.dD.any fun x=>vS a x <;> rfl
theorem tK {p q:Prop} {b:Bool} {X:Option Bool} (hb:b=tr p) (h:p→X=some (tr q)):(bif b then X else some false)=some (tr (p∧q)):=by
 have := sM (p:=p) (q:=q) (b:=!b) (X:=X) (by rw [hb]) h
 rw [← this]; cases b <;> rfl
theorem Am {x y:Nat} (hx:isF x) (hy:isF y):kN x y=some (tr (cf x=cf y)):=by
 rw [Jd hx hy]; exact congrArg some (yY (by rw [Lb hx hy]; simp))
theorem JN {a b:aw} (ha:iM a) (hb:iM b):rW a b=some (tr (nf a=nf b)):=by
 obtain ⟨_,_,_,a4,a5,a6,a7,a8,a9,a11,a10⟩:=ha
 obtain ⟨_,_,_,b4,b5,b6,b7,b8,b9,_,b10⟩:=hb
 have e1:(bif ((a.dO.length:Nat):Int) !=((b.dO.length:Nat):Int) then some false else bA (mG a b) (0:Int))=some (tr (a.dO.map cf=b.dO.map cf)):=by
  refine CN fun hl=>(uY (body:=mG a b) true false cf a.dO b.dO hl omA (fun i hi=>?_) ?_).trans (congrArg some CZ)
  ·have hi':i<b.dO.length:=hl ▸ hi
   simp only [mG,gh hi,cond_true,bD hi,bD hi',Option.bind_some,Am (a4 _ (List.getElem_mem hi)) (b4 _ (List.getElem_mem hi')),bG,Option.map_some]
   exact Hk
  ·simp [mG,bG]
 have e2:(bif ((a.aX.length:Nat):Int) !=((b.aX.length:Nat):Int) then some false else bA (mH a b) (0:Int))=some (tr (a.aX.map rR=b.aX.map rR)):=by
  refine CN fun hl=>(uY (body:=mH a b) true false rR a.aX b.aX hl omA (fun i hi=>?_) ?_).trans (congrArg some CZ)
  ·have hi':i<b.aX.length:=hl ▸ hi
   have g1:=a5 _ (List.getElem_mem hi)
   have g2:=b5 _ (List.getElem_mem hi')
   have e:rp a.aX[i] b.aX[i]=some (tr (rR a.aX[i]=rR b.aX[i])):=by
    simp only [rp,Am g1.1 g2.1,Am g1.2 g2.2,Option.bind_some]
    rw [tK rfl fun _=>rfl]
    exact congrArg some (oR (by simp [rR]))
   simp only [mH,gh hi,cond_true,bD hi,bD hi',Option.bind_some,e,bG,Option.map_some]
   exact Hk
  ·simp [mH,bG]
 have e3:(bif ((a.dD.length:Nat):Int) !=((b.dD.length:Nat):Int) then some false else bA (mI a b) (0:Int))=some (tr (a.dD.map cf=b.dD.map cf)):=by
  refine CN fun hl=>(uY (body:=mI a b) true false cf a.dD b.dD hl omA (fun i hi=>?_) ?_).trans (congrArg some CZ)
  ·have hi':i<b.dD.length:=hl ▸ hi
   simp only [mI,gh hi,cond_true,bD hi,bD hi',Option.bind_some,Am (a6 _ (List.getElem_mem hi)) (b6 _ (List.getElem_mem hi')),bG,Option.map_some]
   exact Hk
  ·simp [mI,bG]
 have e4:dU a.Data b.Data=some (tr (a.Data=b.Data)):=by rw [FF _ _ omA]; exact congrArg some (yY siA)
 simp only [rW,e1,e2,e3,e4,Option.bind_some]
 rw [tK (p:=a.ID.ab=b.ID.ab∧a.ID.Seq=b.ID.Seq) (q:=a.ae=b.ae∧a.dO.map cf=b.dO.map cf∧a.aX.map rR=b.aX.map rR∧a.dD.map cf=b.dD.map cf∧a.Data=b.Data) (yY siA) fun _=>tK (LL _ _) fun _=>tK rfl fun _=>tK rfl fun _=>tK rfl fun _=>rfl]
 refine congrArg _ (oR ?_)
 simp only [nf,aw.mk.injEq,cy.mk.injEq]
 constructor
 ·rintro ⟨h1,h2,h3,h4,h5,h6⟩
  exact ⟨(id_eq _ _).1 h1,h2,h3,h4,h5,h6⟩
 ·rintro ⟨h1,h2,h3,h4,h5,h6⟩
  exact ⟨(id_eq _ _).2 h1,h2,h3,h4,h5,h6⟩
theorem KN {α:Type} (a:α):tr (a=a)=true:=Ew rfl
def idk (i:cy):Int:=i.ab*18446744073709551616+i.Seq
def kid (h:aw):Int:=idk h.ID
theorem FW {i:cy} (h:idG i):0≤i.ab∧i.ab<18446744073709551616∧0≤i.Seq∧i.Seq<18446744073709551616:=by
 obtain ⟨⟨a,b⟩,c,d⟩:=h
 rw [pw8] at b d
 exact ⟨a,by omega,c,by omega⟩
theorem iM.id {h:aw} (g:iM h):idG h.ID:=⟨g.1,g.2.1⟩
theorem EE {a b:cy} (ha:idG a) (hb:idG b):idk a=idk b↔a=b:=by
 have h1:=FW ha
 have h2:=FW hb
 unfold idk
 constructor
 ·intro h
  cases a; cases b
  simp only [cy.mk.injEq] at h1 h2 h ⊢
  omega
 ·rintro rfl; rfl
theorem Lz {a b:cy} (ha:idG a) (hb:idG b):idk a<idk b↔a.ab<b.ab∨(a.ab=b.ab∧a.Seq<b.Seq):=by
 have h1:=FW ha
 have h2:=FW hb
 unfold idk
 omega
theorem xe {a b:cy} (ha:idG a) (hb:idG b):((a.ab==b.ab)&&(a.Seq==b.Seq))=(idk a==idk b):=by
 rw [Bool.eq_iff_iff]
 simp only [Bool.and_eq_true,beq_iff_eq,EE ha hb]
 cases a; cases b; simp
def sg (a b:Int):Int:=if a<b then -1 else if a>b then 1 else 0
theorem Df (a b:Int):eM a b=some (sg a b):=by
 have h1:(a !=a)=false:=by simp
 have h2:(b !=b)=false:=by simp
 simp only [eM,lf,Option.bind_some,h1,h2,cond_false,sg]
 by_cases h:a<b
 ·simp [h]
 ·by_cases h':a>b
  ·simp [h,h']
  ·simp [h,h']
theorem Ix (a b:Int):se [a,b]=some (if a=0 then b else a):=by
 have h:=Cv (body:=om [a,b]) [a,b] (fun x=>x !=0) (fun x=>x) 0 (fun i hi=>by
  simp only [om,gh hi,cond_true,bD hi,Option.bind_some,cm (show i≤4294967295 by simp at hi; omega)]
  cases [a,b][i] !=0 <;> rfl) (by simp [om,bG])
 rw [se,h]
 by_cases h1:a=0
 ·subst h1
  by_cases h2:b=0
  ·subst h2; rfl
  ·simp [h2]
 ·simp [h1]
def BC (a b:cy):Int:=if sg a.ab b.ab=0 then sg a.Seq b.Seq else sg a.ab b.ab
theorem ye (x:aw) (i:cy):mB x i=some (BC x.ID i):=by
 simp only [mB,Df,Ix,Option.bind_some,BC]
theorem IV {a b:Int}:sg a b<0↔a<b:=by unfold sg; split <;> (try split) <;> omega
theorem GL {a b:Int}:sg a b=0↔a=b:=by unfold sg; split <;> (try split) <;> omega
theorem CQ {a b:cy} (ha:idG a) (hb:idG b):BC a b<0↔idk a<idk b:=by
 rw [Lz ha hb]
 unfold BC
 split
 ·rename_i h; rw [GL] at h; rw [IV]; omega
 ·rename_i h; rw [GL] at h; rw [IV]; omega
theorem IH {a b:cy} (ha:idG a) (hb:idG b):BC a b=0↔idk a=idk b:=by
 rw [EE ha hb]
 unfold BC
 split
 ·rename_i h; rw [GL] at h; rw [GL]
  cases a; cases b
  simp only [cy.mk.injEq] at h ⊢
  omega
 ·rename_i h
  have h':=h
  rw [GL] at h'
  constructor
  ·intro e; exact absurd e h
  ·rintro rfl; exact absurd rfl h'
def uK (l:List aw):Prop:=iF kid l∧l.length≤1000∧∀ x∈l,iM x
theorem find_eq {l:List aw} (h:uK l) {i:cy} (hi:idG i):iD (some {l:=l}) i=some (((pl kid (idk i) l:Nat):Int),hit kid (idk i) l):=by
 obtain ⟨hr,hn,hg⟩:=h
 have hs:bA (je {l:=l} i) (((l.length:Nat):Int),(0:Int))=some ((lb (lo kid (idk i)) l:Nat):Int):=by
  refine uB (R:=Int) l (lo kid (idk i)) omA (hr.ahd (idk i)) (fun a j k hk hij hke hj=>?_) (fun a j hij=>?_)
  ·have e1:decide ((a:Int)<(j:Int))=true:=by simpa using hij
   have e2:=yx (i:=a) (j:=j) omA
   rw [← hke] at e2
   simp only [je,e1,cond_true,e2,bD hk,Option.bind_some,ye]
   have e4:decide (BC l[k].ID i<0)=lo kid (idk i) l[k]:=by
    unfold lo
    rw [decide_eq_decide]
    exact CQ (hg _ (List.getElem_mem hk)).id hi
   rw [e4,cm (show k≤4294967295 by omega)]
   cases lo kid (idk i) l[k] <;> rfl
  ·have e1:decide ((a:Int)<(j:Int))=false:=by simpa using hij
   simp only [je,e1,cond_false,bG,Option.map_some]
 simp only [iD,hs,Option.bind_some,mM]
 rw [show lb (lo kid (idk i)) l=pl kid (idk i) l from rfl]
 unfold hit
 by_cases hk:pl kid (idk i) l<l.length
 ·rw [gh hk,cond_true,bD hk,Option.bind_some]
  simp only [ye,Option.bind_some,List.getElem?_eq_getElem hk]
  congr 2
  rw [Bool.eq_iff_iff]
  simp only [beq_iff_eq]
  exact IH (hg _ (List.getElem_mem hk)).id hi
 ·have e1:decide (((pl kid (idk i) l:Nat):Int)<(l.length:Int))=false:=by simpa using hk
  rw [e1,cond_false,List.getElem?_eq_none omA]
  rfl
theorem IA {l:List aw} (h:uK l) {x:aw} (hx:iM x) (hn:l.length≤999):uK (mZ kid l x):=by
 refine ⟨tH h.1 x,by have:=wS h.1 x; omega,fun y hy=>?_⟩
 rcases (lx h.1 x y).1 hy with rfl | ⟨h1,_⟩
 ·exact hx
 ·exact h.2.2 y h1
theorem IG {l:List aw} (h:uK l) (s:Int):uK (rU kid s l):=by
 refine ⟨BN h.1 s,by have:=Bn h.1 s; have:=h.2.1; omega,fun y hy=>?_⟩
 rw [← lW h.1] at hy
 exact h.2.2 y (List.mem_filter.1 hy).1
def bars (h x:aw):Bool:=!(kid x==kid h)&&mtB x h
theorem GC (l:List Nat) (h:l.length≤1000):fM l=some l:=dl (room_le (by simp; omega))
theorem KO (l:List (Nat×Nat)) (h:l.length≤1000):fX l=some l:=dl (room_le (by simp; omega))
theorem KM (l:List Int) (h:l.length≤1000):fe l=some l:=dl (room_le (by simp; omega))
theorem KD {l:List aw} (h:uK l) (hn:l.length≤999) {x:aw} (hx:iM x):jv (some {l:=l}) x=some (if l.any (bars x) then (8,some {l:=l}) else (0,some {l:=mZ kid l x})):=by
 have h1:=rH (body:=jg {l:=l} x) l (bars x) (Sum.inr ((8:Int),some {l:=l})) (Sum.inl ()) (fun i hi=>by
  have hg:=h.2.2 _ (List.getElem_mem hi)
  simp only [jg,gh hi,cond_true,bD hi,Option.bind_some,xe hg.id hx.id,Km hg hx,cm (show i≤4294967295 by omega),bars]
  show (bif !(kid l[i]==kid x) then _ else _)=_
  cases kid l[i]==kid x <;> cases mtB l[i] x <;> rfl) (by simp [jg,bG])
 simp only [jv,h1]
 cases hb:l.any (bars x) with
 | true=>rfl
 | false =>
  show kD x {l:=l} ()=_
  have hx':=hx
  obtain ⟨_,_,_,_,_,_,l1,l2,l3,l4,_⟩:=hx
  simp only [kD,GC x.dO omA,KO x.aX omA,GC x.dD omA,KM x.Data omA,Option.bind_some,find_eq h hx'.id]
  rw [show ({ID:=x.ID,ae:=x.ae,dO:=x.dO,aX:=x.aX,dD:=x.dD,Data:=x.Data}:aw)=x from rfl,show idk x.ID=kid x from rfl]
  cases hh:hit kid (kid x) l with
  | true =>
   obtain ⟨hk,h3,h4⟩:=my hh
   simp only [cond_true,bD hk,Option.bind_some,Int.toNat_natCast,Al hh]; rfl
  | false =>
   simp only [cond_false,gj,dl (wj (x:=x) (kid x) (show l.length≤1073741823 by omega)),Option.bind_some,wQ hh]; rfl
theorem get_eq {l:List aw} (h:uK l) {i:cy} (hi:idG i):jj (some {l:=l}) i=some (match jK kid (idk i) l with | some x=>(x,true) | none=>(dX,false)):=by
 simp only [jj,find_eq h hi,Option.bind_some]
 cases hh:hit kid (idk i) l with
 | false=>simp [jK,hh]
 | true =>
  obtain ⟨hk,h3,h4⟩:=my hh
  simp only [h4,Bool.not_true,cond_false,bD hk,Option.bind_some]
theorem drop_eq {l:List aw} (h:uK l) {i:cy} (hi:idG i):kW (some {l:=l}) i=some (hit kid (idk i) l,some {l:=rU kid (idk i) l}):=by
 simp only [kW,find_eq h hi,Option.bind_some]
 cases hh:hit kid (idk i) l with
 | false =>
  have e:rU kid (idk i) l=l:=by unfold rU pr; rw [hh,cond_false,List.take_append_drop]
  rw [e]; rfl
 | true =>
  obtain ⟨hk,h3,h4⟩:=my hh
  have hf:fits l ((pl kid (idk i) l:Nat):Int) ((pl kid (idk i) l+1:Nat):Int)=true:=by simp [fits]; omega
  have hn:=h.2.1
  rw [cond_true,cm (show pl kid (idk i) l≤4294967295 by omega),gq,dl hf,Option.bind_some,Gf hh]
theorem LC (l:List aw):jk (some {l:=l})=some (l.length:Int):=rfl
theorem IP {l:List aw} (hn:l.length≤1000) (e:Int):fY (some {l:=l}) e=some (l.any fun x=>decide (x.ae≤e)):=by
 obtain ⟨z,h1,h2⟩:=yL (body:=gH {l:=l} e) l (fun x=>decide (x.ae≤e)) (fun i hi=>by
  simp only [gH,gh hi,cond_true,bD hi,Option.bind_some,cm (show i≤4294967295 by omega)]
  cases decide (l[i].ae≤e) <;> rfl) (by simp [gH,bG])
 simp only [fY,h1,Option.bind_some,h2]
theorem DX {m:List aw} (hn:m.length≤1000) (hg:∀ x∈m,iM x) {i:cy} (hi:idG i):sf m i=some (m.filter fun x=>kid x !=idk i):=by
 have h:=nZ (body:=oc m i) m (fun x=>kid x !=idk i) (fun x=>x) (fun out=>out) (fun a ha out ho=>by
  have g:=hg _ (List.getElem_mem ha)
  simp only [oc,gh ha,cond_true,bD ha,Option.bind_some,xe g.id hi,dl (gC (x:=m[a]) (show out.length≤1073741823 by omega)),cm (show a≤4294967295 by omega)]
  show (bif !(kid m[a]==idk i) then _ else _)=_
  simp only [bne]
  cases kid m[a]==idk i <;> rfl) (fun out _=>by simp [oc,bG])
 rw [sf,h,List.map_id']
theorem Iy {m:List aw} (hn:m.length≤999) (hg:∀ x∈m,iM x) {x:aw} (hx:iM x):rZ m x=some (if m.any (bars x) then (m,false) else ((m.filter fun y=>kid y !=kid x)++[x],true)):=by
 have h1:=rH (body:=ot m x) m (bars x) (Sum.inr (m,false)) (Sum.inl ()) (fun i hi=>by
  have g:=hg _ (List.getElem_mem hi)
  simp only [ot,gh hi,cond_true,bD hi,Option.bind_some,xe g.id hx.id,IY g hx,cm (show i≤4294967295 by omega),bars]
  show (bif !(kid m[i]==kid x) then _ else _)=_
  cases kid m[i]==kid x <;> cases mtB m[i] x <;> rfl) (by simp [ot,bG])
 simp only [rZ,h1]
 cases hb:m.any (bars x) with
 | true=>rfl
 | false =>
  show qe m x ()=_
  have hl:=List.length_filter_le (fun y:aw=>kid y !=idk x.ID) m
  simp only [qe,DX omA hg hx.id,Option.bind_some,dl (gC (x:=x) (show (m.filter fun y=>kid y !=idk x.ID).length≤1073741823 by omega)),sv]
  rfl
theorem CF {m:List aw} (hn:m.length≤1000) (hg:∀ x∈m,iM x) {i:cy} (hi:idG i):nI m i=some (match m.find? (fun x=>kid x==idk i) with | some x=>(x,true) | none=>(dX,false)):=by
 have h:=Cv (body:=oa m i) m (fun x=>kid x==idk i) (fun x=>(x,true)) (dX,false) (fun a ha=>by
  have g:=hg _ (List.getElem_mem ha)
  simp only [oa,gh ha,cond_true,bD ha,Option.bind_some,xe g.id hi,cm (show a≤4294967295 by omega)]
  show (bif kid m[a]==idk i then _ else _)=_
  cases kid m[a]==idk i <;> rfl) (by simp [oa,bG])
 unfold nI
 rw [h]
 cases m.find? (fun x=>kid x==idk i) <;> rfl
theorem zK {l m:List aw} (hr:iF kid l) (hp:l.Perm m) (s:Int):m.find? (fun x=>kid x==s)=jK kid s l:=by
 cases h:m.find? (fun x=>kid x==s) with
 | some x =>
  have h1:=List.find?_some h
  have h2:=List.mem_of_find?_eq_some h
  exact ((nk hr).2 ⟨hp.mem_iff.2 h2,eq_of_beq h1⟩).symm
 | none =>
  refine ((zo hr).2 fun x hx e=>?_).symm
  have := List.find?_eq_none.1 h x (hp.mem_iff.1 hx)
  simp [e] at this
theorem AL {α:Type} {l m:List α} (hp:l.Perm m) (q:α→Bool):l.any q=m.any q:=by
 rw [Bool.eq_iff_iff,List.any_eq_true,List.any_eq_true]
 exact ⟨fun ⟨x,h1,h2⟩=>⟨x,hp.mem_iff.1 h1,h2⟩,fun ⟨x,h1,h2⟩=>⟨x,hp.mem_iff.2 h1,h2⟩⟩
theorem KJ:uK []:=⟨tX,Nat.zero_le _,fun x hx=>by cases hx⟩
theorem Kb {l m:List aw} (h:uK l) (hp:l.Perm m) (x:aw):(mZ kid l x).Perm ((m.filter fun y=>kid y !=kid x)++[x]):=by
 refine (sl h.1 x).trans ?_
 exact ((hp.filter _).cons x).trans (List.perm_append_comm (l₁:=[x]))
def rk (x:bW):Int:=x.eW
def vk (x:bf):Int:=x.ae*18446744073709551616+x.Index
def vG (x:bf):Prop:=0≤x.ae∧x.ae<18446744073709551616∧0≤x.Index∧x.Index<18446744073709551616
theorem zy {α:Type} {L:Int×Int→Option ((Int×Int) ⊕ Int)} (l:List α) (p:α→Bool) (hn:l.length≤1073741824) (hp:Ahd p l)
  (h1 : ∀ (i j k:Nat) (hk:k<l.length),i<j→k=(i+j) / 2→j≤l.length→L ((i:Int),(j:Int))=some (.inl (bif p l[k] then (((k+1:Nat):Int),(j:Int)) else ((i:Int),(k:Int)))))
  (h2 : ∀ i j:Nat,¬ i<j→L ((i:Int),(j:Int))=some (.inr (i:Int))):bA L ((0:Int),(l.length:Int))=some ((lb p l:Nat):Int):=by
 have key:=qW (body:=L) (Inv:=fun s=>∃ i j:Nat,s=((i:Int),(j:Int))∧i≤j∧j≤l.length∧(∀ a (h:a<l.length),a<i→p l[a]=true)∧(∀ a (h:a<l.length),j≤a→p l[a]=false))
  (m := fun s=>(s.2 - s.1).toNat) (Q:=fun r=>r=((lb p l:Nat):Int)) (fun s hs=>by
   obtain ⟨i,j,rfl,g1,g2,g3,g4⟩:=hs
   by_cases hij:i<j
   ·have hk:(i+j) / 2<l.length:=by omega
    refine .inl ⟨_,h1 i j _ hk hij rfl g2,?_,?_⟩
    ·cases hb:p l[(i+j) / 2] with
     | true =>
      refine ⟨(i+j) / 2+1,j,rfl,by omega,g2,fun a ha hak=>?_,g4⟩
      by_cases e:a=(i+j) / 2
      ·subst e; exact hb
      ·exact hp a _ ha hk omA hb
     | false =>
      refine ⟨i,(i+j) / 2,rfl,by omega,by omega,g3,fun a ha hak=>?_⟩
      by_cases e:a=(i+j) / 2
      ·subst e; exact hb
      ·cases hc:p l[a] with
       | false=>rfl
       | true=>rw [hp _ a hk ha omA hc] at hb; cases hb
    ·cases hb:p l[(i+j) / 2] with
     | true=>simp only [cond_true]; omega
     | false=>simp only [cond_false]; omega
   ·refine .inr ⟨_,h2 i j hij,?_⟩
    have hij':i=j:=by omega
    subst hij'
    rw [show lb p l=i from uG g2 g3 fun h=>g4 i h (Nat.le_refl _)]) (s:=((0:Int),(l.length:Int))) ⟨0,l.length,rfl,by omega,by omega,fun a _ h=>by omega,fun a h1 h2=>by omega⟩
 obtain ⟨r,h3,h4⟩:=key
 rw [h3,h4]
theorem zE {l:List bW} (h:iF rk l) (hn:l.length≤1000000) (s:Int):jh (some {rows:=l}) s=some (((pl rk s l:Nat):Int),hit rk s l):=by
 have hs:bA (jG {rows:=l} s) ((0:Int),((l.length:Nat):Int))=some ((lb (lo rk s) l:Nat):Int):=by
  refine zy l (lo rk s) omA (h.ahd s) (fun i j k hk hij hke hj=>?_) (fun i j hij=>?_)
  ·have e1:decide ((i:Int)<(j:Int))=true:=by simpa using hij
   have e2:=yx (i:=i) (j:=j) omA
   rw [← hke] at e2
   simp only [jG,e1,cond_true,e2,bD hk,Option.bind_some]
   have e3:IntKind.i64.wrap ((k:Int)+(1:Int))=((k+1:Nat):Int):=wrap_add (a:=k) (b:=1) omA
   by_cases hl:l[k].eW<s
   ·have : ¬ l[k].eW≥s:=by omega
    simp [lo,rk,hl,e3,this]
   ·have : l[k].eW≥s:=by omega
    simp [lo,rk,hl,this]
  ·have e1:decide ((i:Int)<(j:Int))=false:=by simpa using hij
   simp only [jG,e1,cond_false,bG,Option.map_some]
 simp only [jh,hs,Option.bind_some]
 rw [show lb (lo rk s) l=pl rk s l from rfl]
 unfold hit
 by_cases hk:pl rk s l<l.length
 ·have e1:decide (((pl rk s l:Nat):Int)<(l.length:Int))=true:=by simpa using hk
  rw [e1,cond_true,bD hk,Option.bind_some,List.getElem?_eq_getElem hk]
  rfl
 ·have e1:decide (((pl rk s l:Nat):Int)<(l.length:Int))=false:=by simpa using hk
  rw [e1,cond_false,List.getElem?_eq_none omA]
theorem GB {a b:bf} (ha:vG a) (hb:vG b):vk a<vk b↔a.ae<b.ae∨(a.ae=b.ae∧a.Index<b.Index):=by
 obtain ⟨a1,a2,a3,a4⟩:=ha
 obtain ⟨b1,b2,b3,b4⟩:=hb
 unfold vk
 omega
theorem IX {a b:bf} (ha:vG a) (hb:vG b):vk a=vk b↔a.ae=b.ae∧a.Index=b.Index:=by
 obtain ⟨a1,a2,a3,a4⟩:=ha
 obtain ⟨b1,b2,b3,b4⟩:=hb
 unfold vk
 omega
theorem JT {a b:bf} (ha:vG a) (hb:vG b):rY a b.ae b.Index=some (decide (vk a<vk b)):=by
 have h:decide (vk a<vk b)=decide (a.ae<b.ae∨(a.ae=b.ae∧a.Index<b.Index)):=by simp only [GB ha hb]
 rw [h]
 unfold rY
 by_cases h1:a.ae<b.ae
 ·simp [h1]
 ·by_cases h2:a.ae=b.ae
  ·simp [h2]
  ·have h3:(a.ae==b.ae)=false:=by simpa using h2
   simp [h1,h2,h3]
theorem MA {r:bW} {v:bf} (hr:iF vk r.l) (hg:∀ x∈r.l,vG x) (gv:vG v) (hn:r.l.length≤1000000):bA (kb r v) ((0:Int),((r.l.length:Nat):Int))=some ((pl vk (vk v) r.l:Nat):Int):=by
 refine zy r.l (lo vk (vk v)) omA (hr.ahd _) (fun i j k hk hij hke hj=>?_) (fun i j hij=>?_)
 ·have e1:decide ((i:Int)<(j:Int))=true:=by simpa using hij
  have e2:=yx (i:=i) (j:=j) omA
  rw [← hke] at e2
  simp only [kb,e1,cond_true,e2,bD hk,Option.bind_some,JT (hg _ (List.getElem_mem hk)) gv]
  have e3:IntKind.i64.wrap ((k:Int)+(1:Int))=((k+1:Nat):Int):=wrap_add (a:=k) (b:=1) omA
  by_cases hl:vk r.l[k]<vk v
  ·simp [lo,hl,e3]
  ·simp [lo,hl]
 ·have e1:decide ((i:Int)<(j:Int))=false:=by simpa using hij
  simp only [kb,e1,cond_false,bG,Option.map_some]
theorem JW {α:Type} {k:α→Int} {l:List α} {x:α}:(mZ k l x)[pl k (k x) l]?=some x:=by
 unfold mZ
 have h:=ze k (k x) l
 have e:(l.take (pl k (k x) l)).length=pl k (k x) l:=by rw [List.length_take]; omega
 rw [List.getElem?_append_right omA,e,Nat.sub_self]; rfl
theorem GA {α:Type} {k:α→Int} {l:List α} {x y:α} (h:k x=k y):(mZ k l x).set (pl k (k x) l) y=mZ k l y:=by
 unfold mZ
 rw [← h]
 have h:=ze k (k x) l
 have e:(l.take (pl k (k x) l)).length=pl k (k x) l:=by rw [List.length_take]; omega
 rw [List.set_append_right _ _ omA,e,Nat.sub_self]; rfl
def clr (v:bf):bf:={v with Val:=if v.Del then [] else v.Val}
def ql (l:List bW) (r:Int):List bf:=match jK rk r l with | some x=>x.l | none=>[]
def DG (l:List bW) (r:Int) (v:bf):List bW:=mZ rk l {eW:=r,l:=mZ vk (ql l r) v}
structure Good (n:Nat) (l:List bW):Prop where
 rJ : iF rk l
 len : l.length≤n
 vr : ∀ x∈l,iF vk x.l
 vg : ∀ x∈l,∀ v∈x.l,vG v
 vl : ∀ x∈l,x.l.length≤n
theorem MM {x:bW} {v:bf} {z:List Int} (hr:iF vk x.l) (hg:∀ y∈x.l,vG y) (gv:vG v) (hn:x.l.length≤1000000) (t:Int×Bool) (rows:List bW) (hx:dC rows t.1=some x) :
  mA t v z {rows:=rows}=some (some {rows:=rows.set t.1.toNat {eW:=x.eW,l:=mZ vk x.l {v with Val:=z}}}):=by
 have e0:vk {v with Val:=z}=vk v:=rfl
 simp only [mA,hx,Option.bind_some,MA hr hg gv hn]
 have hj:hit vk (vk v) x.l=false→mf x ((pl vk (vk v) x.l:Nat):Int) v z {rows:=rows} t ()=some (some {rows:=rows.set t.1.toNat {eW:=x.eW,l:=mZ vk x.l {v with Val:=z}}}):=fun hh=>by
  simp only [mf,fc]
  rw [dl (wj (x:=({v with Val:=z}:bf)) (vk v) omA),Option.bind_some]
  have := wQ (k:=vk) (l:=x.l) (x:={v with Val:=z}) (by rw [e0]; exact hh)
  rw [e0] at this
  rw [this]
 by_cases hk:pl vk (vk v) x.l<x.l.length
 ·rw [gh hk,cond_true,bD hk,Option.bind_some]
  have hvg:=hg _ (List.getElem_mem hk)
  by_cases he:vk x.l[pl vk (vk v) x.l]=vk v
  ·obtain ⟨q1,q2⟩:=(IX hvg gv).1 he
   have hh:hit vk (vk v) x.l=true:=by unfold hit; rw [List.getElem?_eq_getElem hk]; simpa using he
   have hs:=Al (k:=vk) (l:=x.l) (x:={v with Val:=z}) (by rw [e0]; exact hh)
   rw [e0] at hs
   simp only [q1,q2,beq_self_eq_true,cond_true,Int.toNat_natCast]
   rw [show ({v with Val:=z}:bf)={v with Val:=z} from rfl,hs]
   rfl
  ·have hh:hit vk (vk v) x.l=false:=by unfold hit; rw [List.getElem?_eq_getElem hk]; simpa using he
   rw [← hj hh]
   by_cases q1:x.l[pl vk (vk v) x.l].ae=v.ae
   ·have q2:¬ x.l[pl vk (vk v) x.l].Index=v.Index:=fun q2=>he ((IX hvg gv).2 ⟨q1,q2⟩)
    have b1:(x.l[pl vk (vk v) x.l].ae==v.ae)=true:=by simpa using q1
    have b2:(x.l[pl vk (vk v) x.l].Index==v.Index)=false:=by simpa using q2
    simp only [b1,b2,cond_true,cond_false]
    rfl
   ·have b1:(x.l[pl vk (vk v) x.l].ae==v.ae)=false:=by simpa using q1
    simp only [b1,cond_false]
    rfl
 ·have hk':=ze vk (vk v) x.l
  have e:pl vk (vk v) x.l=x.l.length:=by omega
  have hh:hit vk (vk v) x.l=false:=by unfold hit; rw [List.getElem?_eq_none omA]
  rw [← hj hh]
  have : decide (((pl vk (vk v) x.l:Nat):Int)<((x.l.length:Nat):Int))=false:=by rw [e]; simp
  rw [this,cond_false]
  rfl
theorem Iq {n:Nat} {l:List bW} (g:Good n l) (hn:n≤1000000) {a:Nat} (ha:isF a) {v:bf} (gv:vG v) (hv:v.Val.length≤1000000) :
  jO (some {rows:=l}) a v=some (some {rows:=DG l (aO a) (clr v)}):=by
 have hl:=g.len
 simp only [jO,fe]
 rw [dl (room_le lnA),Option.bind_some]
 have e1:(bif v.Del then (some ([]:List Int)) else some v.Val)=some (clr v).Val:=by unfold clr; cases v.Del <;> rfl
 rw [e1,Option.bind_some]
 simp only [oy,mN ha,Option.bind_some,zE g.rJ (show l.length≤1000000 by omega)]
 have e2:({v with Val:=(clr v).Val}:bf)=clr v:=rfl
 cases hh:hit rk (aO a) l with
 | true =>
  obtain ⟨hk,h1,h2⟩:=my hh
  have hm:=List.getElem_mem hk
  simp only [Bool.not_true,cond_false,Option.bind_some]
  rw [MM (x:=l[pl rk (aO a) l]) (g.vr _ hm) (g.vg _ hm) gv (by have:=g.vl _ hm; omega) _ _ (bD hk),e2]
  have hs:=Al (k:=rk) (l:=l) (x:={eW:=aO a,l:=mZ vk (ql l (aO a)) (clr v)}) hh
  show _=some (some ({rows:=DG l (aO a) (clr v)}:cn))
  unfold DG
  rw [← hs]
  have e3:ql l (aO a)=l[pl rk (aO a) l].l:=by unfold ql; rw [h2]
  rw [e3]
  have e4:l[pl rk (aO a) l].eW=aO a:=h1
  rw [e4]
  rfl
 | false =>
  simp only [Bool.not_false,cond_true,Option.bind_some,gn]
  rw [dl (wj (x:=({eW:=aO a,l:=[]}:bW)) (aO a) omA),Option.bind_some]
  have hi:=wQ (k:=rk) (l:=l) (x:={eW:=aO a,l:=[]}) hh
  rw [show rk ({eW:=aO a,l:=[]}:bW)=aO a from rfl] at hi
  rw [hi,Option.bind_some]
  have hp:=JW (k:=rk) (l:=l) (x:={eW:=aO a,l:=[]})
  rw [MM (x:={eW:=aO a,l:=[]}) tX (fun y h=>by cases h) gv siA _ _ (by rw [wO]; exact hp),e2]
  have hs:=GA (k:=rk) (l:=l) (x:={eW:=aO a,l:=[]}) (y:={eW:=aO a,l:=mZ vk [] (clr v)}) rfl
  have e3:ql l (aO a)=[]:=by
   unfold ql
   have : jK rk (aO a) l=none:=by simp [jK,hh]
   rw [this]
  unfold DG
  rw [e3,← hs]
  rfl
def ver (x:aP):bf:={ae:=x.ae,Index:=x.Index,Del:=x.Del,Val:=x.Val}
def vv (x:aP):Int×bf:=(aO x.At,ver x)
def ky (p:Int×bf):Int×Int:=(p.1,vk p.2)
def mx (l:List bW):List (Int×bf):=l.flatMap fun r=>r.l.map fun v=>(r.eW,v)
def xG (x:aP):Prop:=isF x.At∧vG (ver x)∧x.Val.length≤256∧U8s x.Val
def clx (x:aP):aP:={x with Val:=if x.Del then [] else x.Val}
def yp (k:Int×Int) (p:Int×bf):Bool:=!(decide (ky p=k))
structure Inv (n:Nat) (l:List bW) (m:List aP):Prop where
 rJ : iF rk l
 ne : ∀ x∈l,x.l≠[]
 vr : ∀ x∈l,iF vk x.l
 pm : (mx l).Perm (m.map vv)
 xg : ∀ x∈m,xG x
 cl : ∀ x∈m,x.Del=true→x.Val=[]
 nd : (m.map fun x=>ky (vv x)).Nodup
 AA : m.length≤n
theorem wq {l:List bW} {p:Int×bf}:p∈mx l↔∃ x∈l,x.eW=p.1∧p.2∈x.l:=by
 unfold mx
 rw [List.mem_flatMap]
 constructor
 ·rintro ⟨x,hx,hp⟩
  obtain ⟨v,hv,rfl⟩:=List.mem_map.1 hp
  exact ⟨x,hx,rfl,hv⟩
 ·rintro ⟨x,hx,h1,h2⟩
  exact ⟨x,hx,List.mem_map.2 ⟨p.2,h2,by rw [h1]⟩⟩
theorem AP:∀ {l:List bW},(∀ x∈l,x.l≠[])→l.length≤(mx l).length
 | [],_=>Nat.zero_le _
 | x::l,h=>by
  have h1:=AP (l:=l) fun y hy=>h y (by simp [hy])
  have h2:0<x.l.length:=List.length_pos_iff.2 (h x siA)
  show _≤(((x.l.map fun v=>(x.eW,v))++mx l).length)
  rw [List.length_append,List.length_map,List.length_cons]
  omega
theorem BR:∀ {l:List bW},∀ x∈l,x.l.length≤(mx l).length
 | [],x,h=>by cases h
 | y::l,x,h=>by
  show _≤(((y.l.map fun v=>(y.eW,v))++mx l).length)
  rw [List.length_append,List.length_map]
  rcases List.mem_cons.1 h with rfl | h
  ·omega
  ·have := BR (l:=l) x h; omega
theorem Inv.size {n:Nat} {l:List bW} {m:List aP} (h:Inv n l m):(mx l).length=m.length:=by rw [h.pm.length_eq,List.length_map]
theorem Inv.Ab {n:Nat} {l:List bW} {m:List aP} (h:Inv n l m):Good n l where
 rJ := h.rJ
 len := by have:=AP h.ne; have:=h.size; have:=h.AA; omega
 vr := h.vr
 vg := fun x hx v hv=>by
  have h1:(x.eW,v)∈m.map vv:=h.pm.mem_iff.1 (wq.2 ⟨x,hx,rfl,hv⟩)
  obtain ⟨y,hy,e⟩:=List.mem_map.1 h1
  have e2:ver y=v:=congrArg Prod.snd e
  rw [← e2]; exact (h.xg y hy).2.1
 vl := fun x hx=>by have:=BR x hx; have:=h.size; have:=h.AA; omega
theorem Cp {l k:List bW} (h:l.Perm k):(mx l).Perm (mx k):=List.Perm.flatMap_right _ h
theorem GJ {l:List bW} (hr:iF rk l) (r:Int):l.Perm ((jK rk r l).toList++l.filter (fun x=>rk x !=r)):=by
 rw [lW hr]
 unfold rU
 cases hh:hit rk r l with
 | false =>
  have e:pr rk r l=pl rk r l:=by simp [pr,hh]
  have e2:jK rk r l=none:=by simp [jK,hh]
  rw [e,e2,List.take_append_drop]; exact List.Perm.refl _
 | true =>
  obtain ⟨hk,h3,h4⟩:=my hh
  have e:pr rk r l=pl rk r l+1:=by simp [pr,hh]
  rw [e,h4]
  have h5:l=l.take (pl rk r l)++l[pl rk r l]::l.drop (pl rk r l+1):=by rw [← List.drop_eq_getElem_cons hk,List.take_append_drop]
  have h6:(l.take (pl rk r l)++l[pl rk r l]::l.drop (pl rk r l+1)).Perm (l[pl rk r l]::(l.take (pl rk r l)++l.drop (pl rk r l+1))):=List.perm_middle
  rw [← h5] at h6
  exact h6
theorem lu {l:List bW} (hr:iF rk l) (r:Int):(mx l).Perm ((ql l r).map (fun v=>(r,v))++mx (l.filter (fun x=>rk x !=r))):=by
 have h1:=Cp (GJ hr r)
 have h2:mx ((jK rk r l).toList++l.filter (fun x=>rk x !=r))=(ql l r).map (fun v=>(r,v))++mx (l.filter (fun x=>rk x !=r)):=by
  unfold mx
  rw [List.flatMap_append]
  congr 1
  unfold ql
  cases e:jK rk r l with
  | none=>rfl
  | some x =>
   have e2:x.eW=r:=((nk hr).1 e).2
   simp [e2]
 rwa [h2] at h1
theorem Ef {l:List bW} {r:Int} {p:Int×bf} (h:p∈mx (l.filter (fun x=>rk x !=r))):p.1≠r:=by
 obtain ⟨x,hx,h1,_⟩:=wq.1 h
 have := (List.mem_filter.1 hx).2
 rw [← h1]
 simpa [rk] using this
theorem xl {l:List bW} (hr:iF rk l) (hv:∀ x∈l,iF vk x.l) (r:Int):iF vk (ql l r):=by
 unfold ql
 cases e:jK rk r l with
 | none=>exact tX
 | some x=>exact hv x ((nk hr).1 e).1
theorem IM {l:List bW} (hr:iF rk l) (hv:∀ x∈l,iF vk x.l) (r:Int) (v:bf):(mx (DG l r v)).Perm ((r,v)::(mx l).filter (yp (r,vk v))):=by
 have h1:=Cp (sl hr {eW:=r,l:=mZ vk (ql l r) v})
 have h2:mx ({eW:=r,l:=mZ vk (ql l r) v}::l.filter (fun y=>rk y !=rk {eW:=r,l:=mZ vk (ql l r) v}))=(mZ vk (ql l r) v).map (fun w=>(r,w))++mx (l.filter (fun x=>rk x !=r)):=rfl
 rw [h2] at h1
 have h3:=(sl (xl hr hv r) v).map (fun w=>(r,w))
 have h4:=(lu hr r).filter (yp (r,vk v))
 rw [List.filter_append] at h4
 have h5:(mx (l.filter (fun x=>rk x !=r))).filter (yp (r,vk v))=mx (l.filter (fun x=>rk x !=r)):=List.filter_eq_self.2 fun p hp=>by
  have := Ef hp
  simp [yp,ky,this]
 have h6:((ql l r).map (fun w=>(r,w))).filter (yp (r,vk v))=((ql l r).filter (fun y=>vk y !=vk v)).map (fun w=>(r,w)):=by
  rw [List.filter_map]
  congr 1
  refine List.filter_congr fun w _=>?_
  simp [yp,ky,bne]
  rfl
 rw [h5,h6] at h4
 refine h1.trans ?_
 refine (h3.append_right _).trans ?_
 rw [List.map_cons,List.cons_append]
 exact (h4.symm).cons _
theorem zN {m:List aP} {x:aP} (hm:∀ y∈m,isF y.At) (hx:isF x.At) (hn:m.length≤1000000) (gm:∀ y∈m,vG (ver y)) (gx:vG (ver x)) :
  rX m x=some (m.filter (fun y=>yp (ky (vv x)) (vv y))++[clx x]):=by
 have h:=nZ (body:=pD m x) m (fun y=>yp (ky (vv x)) (vv y)) id id (fun i hi out ho=>by
  have hmi:=List.getElem_mem hi
  simp only [pD,gh hi,cond_true,bD hi,Option.bind_some,rA (hm _ hmi) hx,cm (show i≤4294967295 by omega),dl (gC (xs:=out) (x:=m[i]) omA)]
  have hk:yp (ky (vv x)) (vv m[i]) = !(decide (aO m[i].At=aO x.At)&&(decide (m[i].ae=x.ae)&&decide (m[i].Index=x.Index))):=by
   unfold yp
   congr 1
   rw [Bool.eq_iff_iff]
   simp only [decide_eq_true_eq,Bool.and_eq_true,ky,vv,Prod.mk.injEq,IX (gm _ hmi) gx]
   exact Iff.rfl
  rw [hk]
  by_cases h1:aO m[i].At=aO x.At
  ·by_cases h2:m[i].ae=x.ae
   ·by_cases h3:m[i].Index=x.Index
    ·simp [h1,h2,h3]
    ·have b3:(m[i].Index !=x.Index)=true:=by simpa using h3
     simp [h1,h2,h3,b3]
   ·have b2:(m[i].ae !=x.ae)=true:=by simpa using h2
    simp [h1,h2,b2]
  ·simp [h1]) (fun out ho=>by simp [pD,bG])
 simp only [rX,h,Option.bind_some,tA]
 have e1:(bif x.Del then (some ([]:List Int)) else some x.Val)=some (clx x).Val:=by unfold clx; cases x.Del <;> rfl
 rw [e1,Option.bind_some]
 simp only [tx]
 have hl:=List.length_filter_le (fun y=>yp (ky (vv x)) (vv y)) m
 rw [dl (gC (by simp only [id,List.length_map]; omega))]
 simp [clx]
theorem Ko (x:aP):vv (clx x)=(aO x.At,clr (ver x)):=rfl
theorem Jv {x:aP} (h:xG x):xG (clx x):=by
 obtain ⟨h1,h2,h3,h4⟩:=h
 refine ⟨h1,h2,?_,?_⟩
 ·unfold clx; split
  ·simp
  ·exact h3
 ·unfold clx; split
  ·intro y hy; cases hy
  ·exact h4
theorem FU {n:Nat} {l:List bW} {m:List aP} (h:Inv n l m) (hn:n≤10000) {x:aP} (gx:xG x) :
  jO (some {rows:=l}) x.At (ver x)=some (some {rows:=DG l (aO x.At) (clr (ver x))}) ∧
  ∃ m',rX m x=some m'∧Inv (n+1) (DG l (aO x.At) (clr (ver x))) m':=by
 refine ⟨Iq h.Ab omA gx.1 gx.2.1 (by have:=gx.2.2.1; show x.Val.length≤_; omega),_,zN (fun y hy=>(h.xg y hy).1) gx.1 (by have:=h.AA; omega) (fun y hy=>(h.xg y hy).2.1) gx.2.1,?_⟩
 have hvr:=xl h.rJ h.vr (aO x.At)
 refine ⟨tH h.rJ _,fun y hy=>?_,fun y hy=>?_,?_,fun y hy=>?_,fun y hy=>?_,?_,?_⟩
 ·rcases (lx h.rJ _ y).1 hy with rfl | ⟨h1,_⟩
  ·intro e
   have := (lx hvr (clr (ver x)) (clr (ver x))).2 (.inl rfl)
   have e':mZ vk (ql l (aO x.At)) (clr (ver x))=[]:=e
   rw [e'] at this; cases this
  ·exact h.ne y h1
 ·rcases (lx h.rJ _ y).1 hy with rfl | ⟨h1,_⟩
  ·exact tH hvr _
  ·exact h.vr y h1
 ·refine (IM h.rJ h.vr _ _).trans ?_
  rw [List.map_append,List.map_cons,List.map_nil,Ko]
  have h1:=(h.pm.filter (yp (aO x.At,vk (clr (ver x)))))
  rw [List.filter_map] at h1
  refine List.Perm.trans ?_ List.perm_append_comm
  exact h1.cons _
 ·rcases List.mem_append.1 hy with hy | hy
  ·exact h.xg y (List.mem_filter.1 hy).1
  ·rw [List.mem_singleton.1 hy]; exact Jv gx
 ·rcases List.mem_append.1 hy with hy | hy
  ·exact h.cl y (List.mem_filter.1 hy).1
  ·rw [List.mem_singleton.1 hy]; intro hd; have hd:x.Del=true:=hd; show (if x.Del then [] else x.Val)=[]; rw [if_pos hd]
 ·rw [List.map_append,List.map_cons,List.map_nil]
  refine List.nodup_append.2 ⟨List.Nodup.sublist (List.Sublist.map _ List.filter_sublist) h.nd,by simp,fun a ha b hb=>?_⟩
  obtain ⟨y,hy,rfl⟩:=List.mem_map.1 ha
  rw [List.mem_singleton.1 hb]
  have := (List.mem_filter.1 hy).2
  exact fun e=>by rw [show ky (vv (clx x))=ky (vv x) from rfl] at e; simp [yp,e] at this
 ·have := List.length_filter_le (fun y=>yp (ky (vv x)) (vv y)) m
  have := h.AA
  rw [List.length_append,List.length_singleton]; omega
def Lm (r:Int) (m:List aP):List bf:=(m.filter (fun y=>decide (aO y.At=r))).map ver
theorem CA {r:Int} {m:List aP} {v:bf}:v∈Lm r m↔∃ y∈m,aO y.At=r∧ver y=v:=by
 simp only [Lm,List.mem_map,List.mem_filter,decide_eq_true_eq,and_assoc]
theorem Bf {n:Nat} {l:List bW} {m:List aP} (h:Inv n l m) (r:Int):(ql l r).Perm (Lm r m):=by
 have h1:=(lu h.rJ r).filter (fun p=>decide (p.1=r))
 rw [List.filter_append] at h1
 have e1:((ql l r).map (fun v=>(r,v))).filter (fun p=>decide (p.1=r))=(ql l r).map (fun v=>(r,v)):=List.filter_eq_self.2 fun p hp=>by
  obtain ⟨v,_,rfl⟩:=List.mem_map.1 hp; simp
 have e2:(mx (l.filter (fun x=>rk x !=r))).filter (fun p=>decide (p.1=r))=[]:=List.filter_eq_nil_iff.2 fun p hp=>by
  have := Ef hp; simpa using this
 rw [e1,e2,List.append_nil] at h1
 have h2:=(h1.symm.trans (h.pm.filter (fun p=>decide (p.1=r)))).map Prod.snd
 rw [List.map_map,List.filter_map,List.map_map] at h2
 rw [show (Prod.snd ∘ fun v:bf=>(r,v))=id from rfl,List.map_id] at h2
 exact h2
theorem DF {α:Type} {k:α→Int} {l:List α} (h:iF k l) {a b:α} (ha:a∈l) (hb:b∈l) (e:k a=k b):a=b:=by
 obtain ⟨i,hi,rfl⟩:=List.mem_iff_getElem.1 ha
 obtain ⟨j,hj,rfl⟩:=List.mem_iff_getElem.1 hb
 rcases Nat.lt_trichotomy i j with h1 | h1 | h1
 ·have := h.lt hi hj h1; omega
 ·subst h1; rfl
 ·have := h.lt hj hi h1; omega
def zY (L:List bf) (e:Int):Option bf→Prop
 | none=>∀ v∈L,e<v.ae
 | some v=>v∈L∧v.ae≤e∧∀ w∈L,w.ae≤e→vk w≤vk v
def xW:Option bf→cC
 | none=>{Has:=false,Val:=[]}
 | some v=>bif v.Del then {Has:=false,Val:=[]} else {Has:=true,Val:=v.Val}
theorem FC {L K:List bf} {e:Int} {o p:Option bf} (hL:iF vk L) (hp:L.Perm K) (h1:zY L e o) (h2:zY K e p):o=p:=by
 cases o with
 | none =>
  cases p with
  | none=>rfl
  | some v=>have:=h1 v (hp.mem_iff.2 h2.1); have:=h2.2.1; omega
 | some v =>
  cases p with
  | none=>have:=h2 v (hp.mem_iff.1 h1.1); have:=h1.2.1; omega
  | some w =>
   have a:=h1.2.2 w (hp.mem_iff.2 h2.1) h2.2.1
   have b:=h2.2.2 v (hp.mem_iff.1 h1.1) h1.2.1
   rw [DF hL h1.1 (hp.mem_iff.2 h2.1) omA]
def upto (e:Int) (v:bf):Bool:=decide (v.ae≤e)
theorem Jq {L:List bf} (hr:iF vk L) (hg:∀ v∈L,vG v) (e:Int):Ahd (upto e) L:=fun a b ha hb hab hp=>by
 have h1:=(GB (hg _ (List.getElem_mem ha)) (hg _ (List.getElem_mem hb))).1 (hr.lt ha hb hab)
 simp only [upto,decide_eq_true_eq] at hp ⊢
 omega
theorem JY {F:Int×Int→Option ((Int×Int) ⊕ Int)} {L:List bf} (e:Int) (hr:iF vk L) (hg:∀ v∈L,vG v) (hn:L.length≤1000000)
  (hF : ∀ s,F s=(match s with | (i,j)=>(bif (decide (i<j)) then (((dC L (IntKind.i64.wrap (jq .u64 (IntKind.u64.wrap (IntKind.i64.wrap (i+j))) (1:Int)))).bind fun x=>(some (decide (x.ae>e)))).bind fun z=>(bif (!z) then (some (Sum.inl ((IntKind.i64.wrap ((IntKind.i64.wrap (jq .u64 (IntKind.u64.wrap (IntKind.i64.wrap (i+j))) (1:Int)))+(1:Int))),j))) else (some (Sum.inl (i,(IntKind.i64.wrap (jq .u64 (IntKind.u64.wrap (IntKind.i64.wrap (i+j))) (1:Int)))))))) else (bG (some i))))) :
  bA F ((0:Int),((L.length:Nat):Int))=some ((lb (upto e) L:Nat):Int):=by
 refine zy L (upto e) omA (Jq hr hg e) (fun i j k hk hij hke hj=>?_) (fun i j hij=>?_)
 ·have e1:decide ((i:Int)<(j:Int))=true:=by simpa using hij
  have e2:=yx (i:=i) (j:=j) omA
  rw [← hke] at e2
  simp only [hF,e1,cond_true,e2,bD hk,Option.bind_some]
  have e3:IntKind.i64.wrap ((k:Int)+(1:Int))=((k+1:Nat):Int):=wrap_add (a:=k) (b:=1) omA
  by_cases hl:L[k].ae≤e
  ·have : ¬ L[k].ae>e:=by omega
   simp [upto,hl,e3,this]
  ·have : L[k].ae>e:=by omega
   simp [upto,hl,this]
 ·have e1:decide ((i:Int)<(j:Int))=false:=by simpa using hij
  simp only [hF,e1,cond_false,bG,Option.map_some]
theorem LU {L:List bf} (e:Int) (hr:iF vk L) (hg:∀ v∈L,vG v):(lb (upto e) L=0∧zY L e none)∨(∃ h:lb (upto e) L - 1<L.length,0<lb (upto e) L∧zY L e (some L[lb (upto e) L - 1])):=by
 have hle:=Ce (upto e) L
 have hge:∀ i (h:i<L.length),lb (upto e) L≤i→e<L[i].ae:=fun i h hi=>by
  have hk:lb (upto e) L<L.length:=by omega
  have h1:upto e L[lb (upto e) L]=false:=It hk
  have h2:e<L[lb (upto e) L].ae:=by simpa [upto] using h1
  rcases Nat.eq_or_lt_of_le hi with h3 | h3
  ·subst h3; exact h2
  ·have := (GB (hg _ (List.getElem_mem hk)) (hg _ (List.getElem_mem h))).1 (hr.lt hk h h3); omega
 by_cases h0:lb (upto e) L=0
 ·refine .inl ⟨h0,fun v hv=>?_⟩
  obtain ⟨i,hi,rfl⟩:=List.mem_iff_getElem.1 hv
  exact hge i hi omA
 ·have hk:lb (upto e) L - 1<L.length:=by omega
  refine .inr ⟨hk,by omega,List.getElem_mem hk,?_,fun w hw hwe=>?_⟩
  ·have := Jc (p:=upto e) (l:=L) (a:=lb (upto e) L - 1) omA
   simpa [upto] using this
  ·obtain ⟨i,hi,rfl⟩:=List.mem_iff_getElem.1 hw
   have hil:i<lb (upto e) L:=by
    rcases Nat.lt_or_ge i (lb (upto e) L) with h | h
    ·exact h
    ·have := hge i hi h; omega
   rcases Nat.eq_or_lt_of_le (show i≤lb (upto e) L - 1 by omega) with h | h
   ·subst h; exact Int.le_refl _
   ·have := hr.lt hi hk h; omega
theorem sx {L:List bf} (e:Int) (hr:iF vk L) (hg:∀ v∈L,vG v) (hn:L.length≤1000000) (hv:∀ v∈L,v.Val.length≤1000000):∃ o,zY L e o∧rT L e=some (xW o):=by
 have h:=JY (F:=tC L e) e hr hg hn fun s=>rfl
 simp only [rT,h,Option.bind_some]
 rcases LU e hr hg with ⟨h0,ht⟩ | ⟨hk,h0,ht⟩
 ·refine ⟨none,ht,?_⟩
  rw [h0]; rfl
 ·refine ⟨_,ht,?_⟩
  have hle:=Ce (upto e) L
  have e1:((((lb (upto e) L:Nat):Int))==(0:Int))=false:=by simp; omega
  have e2:IntKind.i64.wrap ((((lb (upto e) L:Nat):Int)) - (1:Int))=((lb (upto e) L - 1:Nat):Int):=sY (a:=lb (upto e) L) (b:=1) omA omA
  rw [e1,cond_false,e2,bD hk,Option.bind_some]
  rw [show xW (some L[lb (upto e) L - 1])=(bif L[lb (upto e) L - 1].Del then {Has:=false,Val:=[]} else {Has:=true,Val:=L[lb (upto e) L - 1].Val}) from rfl]
  cases hd:L[lb (upto e) L - 1].Del with
  | true=>rfl
  | false =>
   simp only [cond_false,fe]
   rw [dl (room_le (by have:=hv _ (List.getElem_mem hk); simp only [List.length_nil]; omega))]
   rfl
theorem Inv.Ml {n:Nat} {l:List bW} {m:List aP} (h:Inv n l m) (r:Int):(ql l r).length≤n:=by
 rw [(Bf h r).length_eq]
 have := List.length_filter_le (fun y:aP=>decide (aO y.At=r)) m
 have := h.AA
 simp only [Lm,List.length_map]; omega
theorem Inv.Mf {n:Nat} {l:List bW} {m:List aP} (h:Inv n l m) {r:Int} {v:bf} (hv:v∈ql l r):vG v∧v.Val.length≤256∧U8s v.Val:=by
 obtain ⟨y,hy,_,rfl⟩:=CA.1 ((Bf h r).mem_iff.1 hv)
 exact (h.xg y hy).2
theorem Ik {n:Nat} {l:List bW} {m:List aP} (h:Inv n l m) (hn:n≤10000) {a:Nat} (ha:isF a) (e:Int):∃ o,zY (ql l (aO a)) e o∧fx (some {rows:=l}) a e=some (xW o):=by
 obtain ⟨o,h1,h2⟩:=sx e (xl h.rJ h.vr (aO a)) (fun v hv=>(h.Mf hv).1) (by have:=h.Ml (aO a); omega) (fun v hv=>by have:=(h.Mf hv).2.1; omega)
 have hl:=h.Ab.len
 simp only [fx,mN ha,Option.bind_some,zE h.rJ (show l.length≤1000000 by omega)]
 cases hh:hit rk (aO a) l with
 | false =>
  have e3:ql l (aO a)=[]:=by
   unfold ql
   have : jK rk (aO a) l=none:=by simp [jK,hh]
   rw [this]
  rw [e3]
  exact ⟨none,fun v hv=>(by cases hv),rfl⟩
 | true =>
  obtain ⟨hk,h3,h4⟩:=my hh
  have e3:ql l (aO a)=l[pl rk (aO a) l].l:=by unfold ql; rw [h4]
  refine ⟨o,h1,?_⟩
  simp only [Bool.not_true,cond_false,bD hk,Option.bind_some]
  rw [← e3,h2]; rfl
def HY (r e:Int) (y:aP):Prop:=aO y.At=r∧y.ae≤e
def BV (m:List aP) (r e:Int) (i:Nat) (k:Int):Prop:=(k = -1∧∀ j (h:j<m.length),j<i→¬ HY r e m[j])∨(∃ a,∃ ha:a<m.length,k=(a:Int)∧HY r e m[a]∧∀ j (h:j<m.length),j<i→HY r e m[j]→vk (ver m[j])≤vk (ver m[a]))
theorem Hg {m:List aP} (hx:∀ y∈m,xG y) (hn:m.length≤1000000) {a:Nat} (ha:isF a) (e:Int):∃ k,tV m a e=some k∧BV m (aO a) e m.length k:=by
 unfold tV
 refine qW (body:=oe m a e) (Inv:=fun s=>∃ i:Nat,s.2=(i:Int)∧i≤m.length∧BV m (aO a) e i s.1) (m:=fun s=>(m.length - s.2).toNat) (Q:=fun k=>BV m (aO a) e m.length k) (fun s hs=>?_) ⟨0,rfl,Nat.zero_le _,.inl ⟨rfl,fun j _ h=>by omega⟩⟩
 obtain ⟨k,z⟩:=s
 obtain ⟨i,rfl,hi,hT⟩:=hs
 by_cases hil:i<m.length
 ·have hmi:=List.getElem_mem hil
  simp only [oe,gh hil,cond_true,bD hil,Option.bind_some,rA (hx _ hmi).1 ha,cm (show i≤4294967295 by omega)]
  have keep:¬ HY (aO a) e m[i]→BV m (aO a) e (i+1) k:=fun hnm=>by
   rcases hT with ⟨h1,h2⟩ | ⟨b,hb,h1,h2,h3⟩
   ·refine .inl ⟨h1,fun j hj hji=>?_⟩
    rcases Nat.lt_or_ge j i with h | h
    ·exact h2 j hj h
    ·have : j=i:=by omega
     subst this; exact hnm
   ·refine .inr ⟨b,hb,h1,h2,fun j hj hji hm=>?_⟩
    rcases Nat.lt_or_ge j i with h | h
    ·exact h3 j hj h hm
    ·have : j=i:=by omega
     subst this; exact absurd hm hnm
  have fin:∀ k':Int,BV m (aO a) e (i+1) k'→∃ s',(some (Sum.inl (k',((i+1:Nat):Int))):Option ((Int×Int) ⊕ Int))=some (.inl s')∧(∃ i:Nat,s'.2=(i:Int)∧i≤m.length∧BV m (aO a) e i s'.1)∧(m.length - s'.2).toNat<(m.length - (i:Int)).toNat:=fun k' hk'=>⟨_,rfl,⟨i+1,rfl,by omega,hk'⟩,by show ((m.length:Int) - ((i+1:Nat):Int)).toNat<_; omega⟩
  left
  by_cases h1:aO m[i].At=aO a
  ·by_cases h2:m[i].ae≤e
   ·have hmat:HY (aO a) e m[i]:=⟨h1,h2⟩
    rcases hT with ⟨h3,h4⟩ | ⟨b,hb,h3,h4,h5⟩
    ·subst h3
     have := fin (i:Int) (.inr ⟨i,hil,rfl,hmat,fun j hj hji hm=>by
      rcases Nat.lt_or_ge j i with h | h
      ·exact absurd hm (h4 j hj h)
      ·have : j=i:=by omega
       subst this; exact Int.le_refl _⟩)
     simpa [h1,h2] using this
    ·subst h3
     have hg1:=(hx _ (List.getElem_mem hb)).2.1
     have hg2:=(hx _ hmi).2.1
     have hb0:¬ ((b:Int)<0):=by omega
     have hlt:=GB hg1 hg2
     by_cases h6:vk (ver m[b])<vk (ver m[i])
     ·have := fin (i:Int) (.inr ⟨i,hil,rfl,hmat,fun j hj hji hm=>by
       rcases Nat.lt_or_ge j i with h | h
       ·have := h5 j hj h hm; omega
       ·have : j=i:=by omega
        subst this; exact Int.le_refl _⟩)
      have h7:m[b].ae<m[i].ae∨(m[b].ae=m[i].ae∧m[b].Index<m[i].Index):=hlt.1 h6
      by_cases h8:m[b].ae<m[i].ae
      ·simpa [h1,h2,hb0,bD hb,h8] using this
      ·have h9:=h7.resolve_left h8
       simpa [h1,h2,hb0,bD hb,h9.1,h9.2] using this
     ·have := fin (b:Int) (.inr ⟨b,hb,rfl,h4,fun j hj hji hm=>by
       rcases Nat.lt_or_ge j i with h | h
       ·exact h5 j hj h hm
       ·have : j=i:=by omega
        subst this; omega⟩)
      have h7:¬ (m[b].ae<m[i].ae∨(m[b].ae=m[i].ae∧m[b].Index<m[i].Index)):=fun h=>h6 (hlt.2 h)
      have h8:¬ m[b].ae<m[i].ae:=fun h=>h7 (.inl h)
      by_cases h9:m[b].ae=m[i].ae
      ·have h10:¬ m[b].Index<m[i].Index:=fun h=>h7 (.inr ⟨h9,h⟩)
       simpa [h1,h2,hb0,bD hb,h9,h10] using this
      ·have h11:(m[b].ae==m[i].ae)=false:=by simpa using h9
       simpa [h1,h2,hb0,bD hb,h8,h11] using this
   ·have := fin k (keep fun h=>h2 h.2)
    simpa [h1,h2] using this
  ·have := fin k (keep fun h=>h1 h.1)
   simpa [h1] using this
 ·have e1:i=m.length:=by omega
  subst e1
  refine .inr ⟨k,?_,hT⟩
  simp [oe,bG]
theorem GO {m:List aP} (hx:∀ y∈m,xG y) (hn:m.length≤1000000) {a:Nat} (ha:isF a) (e:Int):∃ o,zY (Lm (aO a) m) e o∧lc m a e=some (xW o):=by
 obtain ⟨k,h1,h2⟩:=Hg hx hn ha e
 simp only [lc,h1,Option.bind_some]
 rcases h2 with ⟨rfl,h3⟩ | ⟨b,hb,rfl,h4,h5⟩
 ·refine ⟨none,fun v hv=>?_,rfl⟩
  obtain ⟨y,hy,h6,rfl⟩:=CA.1 hv
  obtain ⟨j,hj,rfl⟩:=List.mem_iff_getElem.1 hy
  have := h3 j hj hj
  rcases Int.lt_or_le e (ver m[j]).ae with h | h
  ·exact h
  ·exact absurd ⟨h6,h⟩ this
 ·refine ⟨some (ver m[b]),⟨CA.2 ⟨_,List.getElem_mem hb,h4.1,rfl⟩,h4.2,fun w hw hwe=>?_⟩,?_⟩
  ·obtain ⟨y,hy,h6,rfl⟩:=CA.1 hw
   obtain ⟨j,hj,rfl⟩:=List.mem_iff_getElem.1 hy
   exact h5 j hj hj ⟨h6,hwe⟩
  ·have hb0:decide ((b:Int)<0)=false:=by simp
   rw [hb0,cond_false,bD hb,Option.bind_some]
   rw [show xW (some (ver m[b]))=(bif m[b].Del then {Has:=false,Val:=[]} else {Has:=true,Val:=m[b].Val}) from rfl]
   cases m[b].Del <;> rfl
theorem uU {n:Nat} {l:List bW} {m:List aP} (h:Inv n l m) (hn:n≤10000) {a:Nat} (ha:isF a) (e:Int):∃ o,zY (ql l (aO a)) e o∧fx (some {rows:=l}) a e=some (xW o)∧lc m a e=some (xW o):=by
 obtain ⟨o,h1,h2⟩:=Ik h hn ha e
 obtain ⟨p,h3,h4⟩:=GO h.xg (by have:=h.AA; omega) ha e
 have : o=p:=FC (xl h.rJ h.vr _) (Bf h _) h1 h3
 subst this
 exact ⟨o,h1,h2,h4⟩
theorem FP (g:cC):ja [g] [g]=some true:=by
 have h:=dW (body:=gV [g] [g]) (fun i=>(i:Int)) 1 true (fun i hi=>by
  have : i=0:=by omega
  subst this
  simp [gV,dC,sr,cm (i:=0)]
  rfl) (by simp [gV,bG])
 have e:((([g]:List cC).length:Int) !=(([g]:List cC).length:Int))=false:=by simp
 unfold ja
 rw [e,cond_false]
 exact h
end Go.Proofs.YtgnkkopjkgdieaaGreat
