/- A part of the proof. -/
import Derived.Test.YtgnkkopjkgdieaaGreatLanePlaysGw
import Derived.Test.YtgnkkopjkgdieaaGreatLanePlaysM
section
set_option linter.unusedVariables false
set_option linter.unusedSimpArgs false
set_option maxRecDepth 100000
namespace Go.Proofs.YtgnkkopjkgdieaaGreat
open Go Go.V
theorem vC {a:Nat} (ha:a<18446744073709551616):me a=some (qw a):=by
 simp only [me,uO,qw,Option.some.injEq,decide_eq_decide,Int.ofNat_eq_natCast]
 omega
theorem yu {a:Nat} (ha:a<18446744073709551616) (na:mI a=false):(qw a=true∧ax a=9223372036854775807+nQ a∧nQ a≤0)∨(qw a=false∧ax a=9223372036854775808+nQ a∧0≤nQ a):=by
 unfold ax nQ qw gD
 rw [na]
 by_cases h:9223372036854775808≤a
 ·left; simp only [h,if_true,decide_true,Bool.false_eq_true,if_false,true_and]; omega
 ·right; simp only [h,if_false,decide_false,Bool.false_eq_true,true_and]; omega
theorem oB {a b:Nat} (ha:a<18446744073709551616) (hb:b<18446744073709551616):jy a b=some (decide (ax a<ax b)):=by
 unfold jy nB iJ bt
 rw [vF ha,vF hb,zP ha (by decide),zP hb (by decide),EW ha hb,vC ha,vC hb]
 have k0:nQ 0=0:=by decide
 have n0:mI 0=false:=by decide
 rw [k0,n0]
 cases na:mI a with
 | true =>
  have : ax a=18446744073709551615:=by simp [ax,na]
  have h2:¬ (ax a<ax b):=by
   rw [this]; unfold ax; split
   ·omega
   ·split <;> omega
  simp [h2]
 | false =>
  cases nb:mI b with
  | true =>
   have h1:ax b=18446744073709551615:=by simp [ax,nb]
   have h2:ax a<ax b:=by
    have : gD a≤9218868437227405312:=by simpa [mI] using na
    rw [h1]; unfold ax; rw [na]; unfold gD at this
    simp only [Bool.false_eq_true,if_false]
    split <;> omega
   simp [h2]
  | false =>
   have A:=yu ha na
   have B:=yu hb nb
   simp only [Bool.not_false,Bool.true_and,cond_false,Option.bind_some]
   by_cases z1:nQ a=0 <;> by_cases z2:nQ b=0 <;> rcases A with ⟨s1,r1,k1⟩ | ⟨s1,r1,k1⟩ <;> rcases B with ⟨s2,r2,k2⟩ | ⟨s2,r2,k2⟩ <;> rw [r1,r2] <;>
    simp only [z1,z2,s1,s2,decide_true,decide_false,cond_true,cond_false,Option.bind_some,Option.map_some,Bool.not_true,Bool.not_false,Option.some.injEq,Bool.false_eq,Bool.true_eq,decide_eq_false_iff_not,decide_eq_true_eq,decide_eq_decide] <;> omega
end Go.Proofs.YtgnkkopjkgdieaaGreat

end
section
set_option linter.unusedVariables false
set_option linter.unusedSimpArgs false
set_option maxRecDepth 100000
namespace Go.Proofs.YtgnkkopjkgdieaaGreat
open Go Go.V
theorem BL {a:Nat} (ha:a<18446744073709551616):pK a=some (mI a):=by simp [pK,vF ha]
theorem pd {a:Nat} (ha:a<18446744073709551616):eN a=some (ax a):=by
 unfold eN ax
 rw [BL ha,Option.bind_some]
 cases hn:mI a with
 | true=>rfl
 | false =>
  simp only [cond_false,Int.ofNat_eq_natCast,CG,Bool.false_eq_true,if_false]
  by_cases h:9223372036854775808≤a
  ·have e:a / 9223372036854775808=1:=by omega
   rw [e,if_pos h]
   have := AL ha
   simp [this]
  ·have e:a / 9223372036854775808=0:=by omega
   rw [e,if_neg h]
   have := ET (x:=a) (by omega)
   simp [this]
end Go.Proofs.YtgnkkopjkgdieaaGreat

end
section
set_option linter.unusedVariables false
set_option linter.unusedSimpArgs false
namespace Go.Proofs.YtgnkkopjkgdieaaGreat
open Go Go.V
theorem nC {a b:Nat} (ha:a<18446744073709551616) (hb:b<18446744073709551616):eG a b=some (decide (ax a=ax b)):=by
 unfold eG
 rw [oB ha hb,oB hb ha]
 by_cases h1:ax a<ax b
 ·have : ¬ ax a=ax b:=by omega
  simp [h1,this]
 ·by_cases h2:ax b<ax a
  ·have : ¬ ax a=ax b:=by omega
   simp [h1,h2,this]
  ·have : ax a=ax b:=by omega
   simp [h1,h2,this]
end Go.Proofs.YtgnkkopjkgdieaaGreat

end
section
set_option linter.unusedVariables false
set_option linter.unusedSimpArgs false
set_option maxRecDepth 100000
namespace Go.Proofs.YtgnkkopjkgdieaaGreat
open Go Go.V
theorem back_eq {v:Nat} (hv:v<18446744073709551616):jz (v:Int)=some (if 9223372036854775808≤v then v - 9223372036854775808 else 18446744073709551615 - v):=by
 unfold jz
 rw [CG,zu hv,AL hv]
 by_cases h:9223372036854775808≤v
 ·have e:v / 9223372036854775808=1:=by omega
  rw [e,if_pos h]
  have e2:v%9223372036854775808=v - 9223372036854775808:=by omega
  rw [show (((1:Nat):Int)==1)=true from rfl,cond_true,Int.toNat_natCast,e2]
 ·have e:v / 9223372036854775808=0:=by omega
  rw [e,if_neg h]
  have e2:((18446744073709551615:Int) - (v:Int)).toNat=18446744073709551615 - v:=by omega
  rw [show (((0:Nat):Int)==1)=false from rfl,cond_false,e2]
theorem wW {x:Nat} (hx:x<18446744073709551616):0≤ax x∧ax x<18446744073709551616:=by
 unfold ax
 split
 ·omega
 ·split <;> omega
theorem wP {x:Nat} (hx:x<18446744073709551616) (hn:mI x=false):jz (ax x)=some x:=by
 obtain ⟨h0,h1⟩:=wW hx
 obtain ⟨u,hu⟩:=Int.eq_ofNat_of_zero_le h0
 rw [hu,back_eq (by omega)]
 congr 1
 unfold ax at hu
 rw [hn] at hu
 simp only [Bool.false_eq_true,if_false] at hu
 split at hu <;> split <;> omega
end Go.Proofs.YtgnkkopjkgdieaaGreat

end
section
set_option linter.unusedVariables false
set_option linter.unusedSimpArgs false
set_option maxRecDepth 100000
namespace Go.Proofs.YtgnkkopjkgdieaaGreat
open Go Go.V
def pI (t:ak):Prop:=0≤t.I∧t.L.length≤1000000∧∀ x∈t.L,0≤x∧x<256
theorem AN {t:ak} {n:Int} (h:pI t) (hn:0<n) (hn2:n≤1000000000):∃ v t',aF t n=some (v,t')∧0≤v∧v<n∧pI t'∧t'.L=t.L:=by
 obtain ⟨L,I⟩:=t
 obtain ⟨h0,h1,h2⟩:=h
 simp only at h0 h1 h2
 obtain ⟨i,rfl⟩:=Int.eq_ofNat_of_zero_le h0
 unfold aF
 simp only
 cases hc:decide ((i:Int)≥(L.length:Int)) with
 | true=>exact ⟨0,_,rfl,Int.le_refl _,hn,⟨h0,h1,h2⟩,rfl⟩
 | false =>
  have hlt:(i:Int)<(L.length:Int):=by simpa using hc
  have e1:IntKind.i64.wrap ((i:Int)+1)=i+1:=by rw [wrap_i64] <;> omega
  have e2:IntKind.i64.wrap ((i:Int)+1 - 1)=i:=by rw [wrap_i64] <;> omega
  have hi2:i<L.length:=by omega
  have hx:=h2 L[i] (List.getElem_mem hi2)
  have e3:IntKind.i64.wrap L[i]=L[i]:=by rw [wrap_i64] <;> omega
  have e4:(!(n==(0:Int)))=true:=by simp; omega
  have e5:Int.tmod L[i] n=L[i]%n:=Int.tmod_eq_emod_of_nonneg hx.1
  simp only [cond_false,e1,e2,bl hi2,Option.bind_some,e3,db e4,e5]
  refine ⟨_,_,rfl,Int.emod_nonneg _ (by omega),Int.emod_lt_of_pos _ hn,⟨?_,h1,h2⟩,rfl⟩
  show (0:Int)≤(i:Int)+1
  omega
end Go.Proofs.YtgnkkopjkgdieaaGreat

end
section
set_option linter.unusedVariables false
set_option linter.unusedSimpArgs false
set_option maxRecDepth 100000
namespace Go.Proofs.YtgnkkopjkgdieaaGreat
open Go Go.V
theorem zN {v:Int} (h0:0≤v) (h1:v<8):∃ f,qd v=some f∧f<18446744073709551616∧mI f=false:=by
 have : v=0∨v=1∨v=2∨v=3∨v=4∨v=5∨v=6∨v=7:=by omega
 rcases this with rfl | rfl | rfl | rfl | rfl | rfl | rfl | rfl <;> exact ⟨_,rfl,by decide,by decide⟩
theorem zq {t:ak} (h:pI t):∃ f t',cU t=some (f,t')∧(f<18446744073709551616∧mI f=false)∧pI t':=by
 obtain ⟨v,t',h1,h2,h3,h4,h5⟩:=AN h (n:=8) (by decide) (by decide)
 have e:IntKind.u8.wrap v=v:=by rw [wrap_u8] <;> omega
 obtain ⟨f,g1,g2⟩:=zN h2 h3
 exact ⟨f,t',by simp [cU,h1,e,g1],g2,h4⟩
end Go.Proofs.YtgnkkopjkgdieaaGreat

end
section
set_option linter.unusedVariables false
set_option linter.unusedSimpArgs false
set_option maxRecDepth 100000
namespace Go.Proofs.YtgnkkopjkgdieaaGreat
open Go Go.V
end Go.Proofs.YtgnkkopjkgdieaaGreat

end
section
set_option linter.unusedVariables false
set_option linter.unusedSimpArgs false
set_option maxRecDepth 100000
namespace Go.Proofs.YtgnkkopjkgdieaaGreat
open Go Go.V
def Bm (r:bX):Prop:=r.p.length≤1000000000∧∀ x∈r.p,zG x
end Go.Proofs.YtgnkkopjkgdieaaGreat

end
section
set_option linter.unusedVariables false
set_option linter.unusedSimpArgs false
set_option maxRecDepth 100000
namespace Go.Proofs.YtgnkkopjkgdieaaGreat
open Go Go.V
end Go.Proofs.YtgnkkopjkgdieaaGreat

end
section
set_option linter.unusedVariables false
set_option linter.unusedSimpArgs false
set_option maxRecDepth 100000
namespace Go.Proofs.YtgnkkopjkgdieaaGreat
open Go Go.V
theorem DP (a b:List Int) (hl:a.length≤1000000000):eW a b=some (decide (a=b)):=by
 unfold eW
 cases h:(((a).length:Int) !=((b).length:Int)) with
 | true =>
  have : ¬ a=b:=by rintro rfl; simp at h
  simp [this]
 | false =>
  have hlen:a.length=b.length:=by simp at h; omega
  rw [cond_false]
  obtain ⟨r,e1,e2⟩:∃ r,br (eZ a b) (0:Int)=some r∧r=decide (a=b):=by
   refine nA (fun i:Int=>0≤i∧i≤a.length∧a.take i.toNat=b.take i.toNat) (fun i=>((a.length:Int) - i).toNat) (fun r=>r=decide (a=b)) ?_ ⟨Int.le_refl 0,by omega,by simp⟩
   rintro i ⟨h0,h1,h2⟩
   obtain ⟨n,rfl⟩:=Int.eq_ofNat_of_zero_le h0
   unfold eZ
   cases hi:decide ((n:Int)<(a.length:Int)) with
   | false =>
    have hn:n=a.length:=by simp at hi; omega
    right
    refine ⟨true,rfl,?_⟩
    subst hn
    rw [Int.toNat_natCast,List.take_length,hlen,List.take_length] at h2
    simp [h2]
   | true =>
    have hn:n<a.length:=by simpa using hi
    have hn2:n<b.length:=by omega
    have hw:IntKind.i64.wrap ((n:Int)+1)=((n+1:Nat):Int):=by rw [wrap_i64] <;> omega
    simp only [cond_true,bl hn,bl hn2,Option.bind_some,hw]
    by_cases he:a[n]=b[n]
    ·left
     refine ⟨((n+1:Nat):Int),by simp [he],⟨by omega,by omega,?_⟩,by omega⟩
     rw [Int.toNat_natCast] at h2
     rw [Int.toNat_natCast,List.take_succ_eq_append_getElem hn,List.take_succ_eq_append_getElem hn2,h2,he]
    ·right
     have hne:¬ a=b:=by
      intro e
      subst e
      exact he rfl
     have hb:(a[n] !=b[n])=true:=by simpa using he
     exact ⟨false,by rw [hb]; rfl,by simp [hne]⟩
  rw [e1,e2]
end Go.Proofs.YtgnkkopjkgdieaaGreat

end
section
set_option linter.unusedVariables false
set_option linter.unusedSimpArgs false
set_option maxRecDepth 100000
namespace Go.Proofs.YtgnkkopjkgdieaaGreat
open Go Go.V
end Go.Proofs.YtgnkkopjkgdieaaGreat

end
section
set_option linter.unusedVariables false
set_option linter.unusedSimpArgs false
set_option maxRecDepth 100000
namespace Go.Proofs.YtgnkkopjkgdieaaGreat
open Go Go.V
def isF (x:Nat):Prop:=x<18446744073709551616
end Go.Proofs.YtgnkkopjkgdieaaGreat

end
section
set_option linter.unusedVariables false
set_option linter.unusedSimpArgs false
set_option maxRecDepth 100000
namespace Go.Proofs.YtgnkkopjkgdieaaGreat
open Go Go.V
end Go.Proofs.YtgnkkopjkgdieaaGreat

end
section
set_option linter.unusedVariables false
set_option linter.unusedSimpArgs false
set_option maxRecDepth 100000
namespace Go.Proofs.YtgnkkopjkgdieaaGreat
open Go Go.V
end Go.Proofs.YtgnkkopjkgdieaaGreat

end
section
set_option linter.unusedVariables false
set_option linter.unusedSimpArgs false
set_option maxRecDepth 100000
namespace Go.Proofs.YtgnkkopjkgdieaaGreat
open Go Go.V
def U8s (l:List Int):Prop:=∀ y∈l,zG y
theorem U8s.app {a b:List Int} (h:U8s a) (k:U8s b):U8s (a++b):=fun y hy=>(List.mem_append.1 hy).elim (h y) (k y)
theorem U8s.nil:U8s []:=fun y hy=>by cases hy
theorem U8s.flat {β:Type} {e:β→List Int} {l:List β} (h:∀ x∈l,U8s (e x)):U8s (l.map e).flatten:=by
 intro y hy
 simp only [List.mem_flatten,List.mem_map] at hy
 obtain ⟨_,⟨x,hx,rfl⟩,hy⟩:=hy
 exact h x hx y hy
def RD {α:Type} (f:bX→Option (α×bX)) (b:List Int) (x:α):Prop:=U8s b∧∀ q,U8s q→b.length+q.length≤1000000000→f {p:=b++q,bad:=false}=some (x,{p:=q,bad:=false})
def TT {α:Type} (f:bX→Option (α×bX)) (P:α→Prop):Prop:=∀ r,Bm r→∃ x r',f r=some (x,r')∧P x∧Bm r'
theorem RD.ret {α:Type} (x:α):RD (fun r=>some (x,r)) [] x:=⟨U8s.nil,fun q hq _=>rfl⟩
theorem RD.bind {α β:Type} {f:bX→Option (α×bX)} {g:α×bX→Option (β×bX)} {b c:List Int} {x:α} {y:β} (hf:RD f b x) (hg:RD (fun r=>g (x,r)) c y):RD (fun r=>(f r).bind g) (b++c) y :=
 ⟨hf.1.app hg.1,fun q hq hl=>by
  simp only [List.length_append] at hl
  show (f {p:=b++c++q,bad:=false}).bind g=_
  rw [List.append_assoc,hf.2 (c++q) (hg.1.app hq) (by simp only [List.length_append]; omega),Option.bind_some]
  exact hg.2 q hq (by omega)⟩
theorem RD.map {α β:Type} {f:bX→Option (α×bX)} {g:α×bX→Option (β×bX)} {b:List Int} {x:α} {y:β} (hf:RD f b x) (hg:∀ r,g (x,r)=some (y,r)):RD (fun r=>(f r).bind g) b y :=
 ⟨hf.1, fun q hq hl=>by show (f {p:=b++q,bad:=false}).bind g=_; rw [hf.2 q hq hl,Option.bind_some,hg]⟩
theorem RD.of {α:Type} {f g:bX→Option (α×bX)} {b:List Int} {x:α} (h:∀ r,f r=g r) (hg:RD g b x):RD f b x:=⟨hg.1,fun q hq hl=>by rw [h]; exact hg.2 q hq hl⟩
theorem RD.congr {α:Type} {f:bX→Option (α×bX)} {b c:List Int} {x y:α} (h:RD f b x) (e:b=c) (e2:x=y):RD f c y:=e ▸ e2 ▸ h
theorem TT.ret {α:Type} {P:α→Prop} {x:α} (h:P x):TT (fun r=>some (x,r)) P:=fun r hr=>⟨x,r,rfl,h,hr⟩
theorem TT.bind {α β:Type} {f:bX→Option (α×bX)} {g:α×bX→Option (β×bX)} {P:α→Prop} {Q:β→Prop} (hf:TT f P) (hg:∀ x,P x→TT (fun r=>g (x,r)) Q):TT (fun r=>(f r).bind g) Q:=fun r hr=>by
 obtain ⟨x,r',h1,h2,h3⟩:=hf r hr
 obtain ⟨y,r2,k1,k2,k3⟩:=hg x h2 r' h3
 exact ⟨y,r2,by show (f r).bind g=_; rw [h1,Option.bind_some]; exact k1,k2,k3⟩
theorem TT.of {α:Type} {f g:bX→Option (α×bX)} {P:α→Prop} (h:∀ r,f r=g r) (hg:TT g P):TT f P:=fun r hr=>by rw [h]; exact hg r hr
theorem TT.imp {α:Type} {f:bX→Option (α×bX)} {P Q:α→Prop} (hf:TT f P) (h:∀ x,P x→Q x):TT f Q:=fun r hr=>by
 obtain ⟨x,r',h1,h2,h3⟩:=hf r hr
 exact ⟨x,r',h1,h x h2,h3⟩
theorem pw8:(256:Nat) ^ 8=18446744073709551616:=by decide
theorem pw4:(256:Nat) ^ 4=4294967296:=by decide
theorem pw2:(256:Nat) ^ 2=65536:=by decide
theorem pw1:(256:Nat) ^ 1=256:=by decide
def isU (m:Nat) (v:Int):Prop:=0≤v∧v<((256 ^ m:Nat):Int)
def cf (x:Nat):Nat:=if 9223372036854775808≤(ax x).toNat then (ax x).toNat - 9223372036854775808 else 18446744073709551615 - (ax x).toNat
theorem Ec {x:Nat} (h:isF x):jz (ax x)=some (cf x):=by
 obtain ⟨h0,h1⟩:=wW h
 have := back_eq (v:=(ax x).toNat) (by omega)
 rw [Int.toNat_of_nonneg h0] at this
 rw [this]; rfl
theorem zZ {x:Nat} (h:isF x) (hn:mI x=false):cf x=x:=by
 have h1:=wP h hn
 rw [Ec h] at h1
 exact Option.some.inj h1
theorem yq {x:Nat} (h:isF x):ax (cf x)=ax x:=by
 cases hn:mI x with
 | false=>rw [zZ h hn]
 | true =>
  have e:ax x=18446744073709551615:=by simp [ax,hn]
  have e2:cf x=9223372036854775807:=by unfold cf; rw [e]; decide
  rw [e2,e]; decide
theorem Es {x y:Nat} (hx:isF x) (hy:isF y):cf x=cf y↔ax x=ax y:=by
 constructor
 ·intro h
  rw [← yq hx,← yq hy,h]
 ·intro h
  unfold cf
  rw [h]
section
variable {α β S R:Type} {body:S→Option (S ⊕ R)} (st:bX→List α→Int→S) (out:bX→List α→R) {F:bX→Option (α×bX)}
theorem RD.loop (l:List β) (e:β→List Int) (c:β→α) (hl:l.length≤1000000000) (hF:∀ x∈l,RD F (e x) (c x))
  (hb : ∀ r acc i,i<(l.length:Int)→body (st r acc i)=(F r).bind fun t=>gd (room acc [t.1]) (some (Sum.inl (st t.2 (acc++[t.1]) (IntKind.i64.wrap (i+(1:Int)))))))
  (hend : ∀ r acc,body (st r acc (l.length:Int))=some (Sum.inr (out r acc))) (q:List Int) (hq:U8s q) (hlen:(l.map e).flatten.length+q.length≤1000000000) :
  br body (st {p:=(l.map e).flatten++q,bad:=false} [] (0:Int))=some (out {p:=q,bad:=false} (l.map c)):=by
 have h:=dz (body:=body) (fun i=>st {p:=((l.drop i).map e).flatten++q,bad:=false} ((l.take i).map c) (i:Int)) l.length (out {p:=q,bad:=false} (l.map c)) ?_ ?_
 ·simpa using h
 ·intro i hi
  have e1:IntKind.i64.wrap ((i:Int)+(1:Int))=((i+1:Nat):Int):=by rw [wrap_i64] <;> omega
  have hx:=hF _ (List.getElem_mem hi)
  have hu:U8s (((l.drop (i+1)).map e).flatten++q):=(U8s.flat fun x hx=>(hF x (List.mem_of_mem_drop hx)).1).app hq
  have hd:l.drop i=l[i]::l.drop (i+1):=List.drop_eq_getElem_cons hi
  have hlen2:((l.drop i).map e).flatten.length≤(l.map e).flatten.length:=by
   have h3:(l.map e).flatten=((l.take i).map e).flatten++((l.drop i).map e).flatten:=by rw [← List.flatten_append,← List.map_append,List.take_append_drop]
   rw [h3,List.length_append]; omega
  rw [hd,List.map_cons,List.flatten_cons,List.length_append] at hlen2
  have hr:=hx.2 _ hu (by simp only [List.length_append]; omega)
  rw [hb _ _ _ (by omega),hd,List.map_cons,List.flatten_cons,List.append_assoc,hr,Option.bind_some,db (jH (by simp only [List.length_map,List.length_take,List.length_cons,List.length_nil]; omega)),e1,List.take_succ_eq_append_getElem hi,List.map_append]
  rfl
 ·rw [hend,List.take_length,List.drop_length]; rfl
theorem TT.loop {P:α→Prop} (hF:TT F P) (n:Int) (hn:n≤1000000000)
  (hb : ∀ r acc i,i<n→body (st r acc i)=(F r).bind fun t=>gd (room acc [t.1]) (some (Sum.inl (st t.2 (acc++[t.1]) (IntKind.i64.wrap (i+(1:Int)))))))
  (hend : ∀ r acc i,¬ i<n→body (st r acc i)=some (Sum.inr (out r acc))) (r:bX) (hr:Bm r) (h0:0≤n) :
  ∃ r' acc,br body (st r [] (0:Int))=some (out r' acc)∧Bm r'∧(∀ x∈acc,P x)∧(acc.length:Int)≤n:=by
 have key:∀ (k:Nat) (r:bX) (acc:List α) (i:Int),Bm r→(acc.length:Int)=i→i≤n→(∀ x∈acc,P x)→(n - i).toNat≤k→∃ r' acc',br body (st r acc i)=some (out r' acc')∧Bm r'∧(∀ x∈acc',P x)∧(acc'.length:Int)≤n:=by
  intro k
  induction k with
  | zero =>
   intro r acc i hr ha hi hP hk
   have hni:¬ i<n:=by omega
   exact ⟨r,acc,by rw [eA,hend r acc i hni]; rfl,hr,hP,by omega⟩
  | succ k ih =>
   intro r acc i hr ha hi hP hk
   by_cases hlt:i<n
   ·obtain ⟨x,r',h1,h2,h3⟩:=hF r hr
    have e1:IntKind.i64.wrap (i+(1:Int))=i+1:=by rw [wrap_i64] <;> omega
    obtain ⟨r2,acc2,g1,g2,g3,g4⟩:=ih r' (acc++[x]) (i+1) h3 (by simp only [List.length_append,List.length_cons,List.length_nil]; omega) (by omega) (fun y hy=>by
     rcases List.mem_append.1 hy with hy | hy
     ·exact hP y hy
     ·cases List.mem_singleton.1 hy; exact h2) (by omega)
    refine ⟨r2,acc2,?_,g2,g3,g4⟩
    rw [eA,hb r acc i hlt,h1,Option.bind_some,db (jH (by simp only [List.length_cons,List.length_nil]; omega)),e1]
    exact g1
   ·exact ⟨r,acc,by rw [eA,hend r acc i hlt]; rfl,hr,hP,by omega⟩
 exact key (n - 0).toNat r [] 0 hr rfl h0 (fun x hx=>by cases hx) (Nat.le_refl _)
end
end Go.Proofs.YtgnkkopjkgdieaaGreat

end
section
set_option linter.unusedVariables false
set_option linter.unusedSimpArgs false
set_option maxRecDepth 100000
namespace Go.Proofs.YtgnkkopjkgdieaaGreat
open Go Go.V
theorem bnd {α β:Type} {x:Option α} {f g:α→Option β} (h:∀ a,f a=g a):x.bind f=x.bind g:=by rw [funext h]
def oR (x:Nat×Nat):Nat×Nat:=(cf x.1,cf x.2)
theorem tx {α:Type} (x:Option α):x.bind some=x:=by cases x <;> rfl
def hJ (h:al):Prop:=isU 8 h.ID.Session∧isU 8 h.ID.Seq∧isU 8 h.Epoch∧(∀ x∈h.Gets,isF x)∧(∀ x∈h.Scans,isF x.1∧isF x.2)∧(∀ x∈h.Puts,isF x)∧h.Gets.length≤32∧h.Scans.length≤32∧h.Puts.length≤32∧h.Data.length≤257∧U8s h.Data
def mG (h:al):al:={h with ID:={Session:=h.ID.Session,Seq:=h.ID.Seq},Gets:=h.Gets.map cf,Scans:=h.Scans.map oR,Puts:=h.Puts.map cf}
end Go.Proofs.YtgnkkopjkgdieaaGreat

end
section
set_option linter.unusedVariables false
set_option linter.unusedSimpArgs false
set_option maxRecDepth 100000
namespace Go.Proofs.YtgnkkopjkgdieaaGreat
open Go Go.V
def EE (x:cp):Prop:=x.Val.length≤256∧U8s x.Val
def Ck (x:bM):Prop:=isF x.At∧x.Val.length≤256∧U8s x.Val
def zk (l:List bM):Prop:=l.length≤64∧∀ p∈l,Ck p
def wh (x:bp):Prop:=isU 1 x.E∧isU 8 x.Epoch∧isU 8 x.Index∧(∀ g∈x.Gots,EE g)∧(∀ l∈x.Scans,zk l)∧x.Gots.length≤32∧x.Scans.length≤32
def Fs (x:cp):cp:={Has:=x.Has,Val:=x.Val}
def Ar (x:bM):bM:={At:=cf x.At,Val:=x.Val}
def vZ (l:List bM):List bM:=l.map Ar
def uw (x:bp):bp:={x with Gots:=x.Gots.map Fs,Scans:=x.Scans.map vZ}
end Go.Proofs.YtgnkkopjkgdieaaGreat

end
section
set_option linter.unusedVariables false
set_option linter.unusedSimpArgs false
set_option maxRecDepth 100000
namespace Go.Proofs.YtgnkkopjkgdieaaGreat
open Go Go.V
def zE (x:bN):Prop:=isF x.At∧x.Val.length≤256∧U8s x.Val
def qY (l:List bN):Prop:=l.length≤32∧∀ x∈l,zE x
def xP (x:bN):bN:={x with At:=cf x.At}
def ra (l:List bN):List bN:=l.map xP
def zW (x:dr):Prop:=isU 8 x.ID∧isU 1 x.From∧isU 1 x.To∧isF x.Lo∧isF x.Hi∧isU 8 x.Authority∧isU 4 x.Quota
def wX (x:dr):dr:={x with Lo:=cf x.Lo,Hi:=cf x.Hi}
def BX (x:dX):Prop:=isU 1 x.Shard∧qY x.Writes
def yZ (x:dX):dX:={Shard:=x.Shard,Writes:=ra x.Writes}
def idG (x:bK):Prop:=isU 8 x.Session∧isU 8 x.Seq
def cId (x:bK):bK:={Session:=x.Session,Seq:=x.Seq}
def zR:bp:={E:=0,Epoch:=0,Index:=0,Gots:=[],Scans:=[]}
def zH:al:={ID:={Session:=0,Seq:=0},Epoch:=0,Gets:=[],Scans:=[],Puts:=[],Data:=[]}
def zL:dr:={ID:=0,From:=0,To:=0,Lo:=0,Hi:=0,Authority:=0,Quota:=0}
def zC:aC:={Kind:=0,ID:={Session:=0,Seq:=0},Epoch:=0,Index:=0,E:=0,Hold:=zH,Writes:=[],R:=zR,Shards:=0,Parts:=[],Rule:=zL,On:=false}
end Go.Proofs.YtgnkkopjkgdieaaGreat

end
section
set_option linter.unusedVariables false
set_option linter.unusedSimpArgs false
set_option maxRecDepth 100000
namespace Go.Proofs.YtgnkkopjkgdieaaGreat
open Go Go.V
def Df (c:aC):Prop:=(1≤c.Kind∧c.Kind≤7)∧idG c.ID∧isU 8 c.Epoch∧isU 8 c.Index∧isU 1 c.E∧hJ c.Hold∧qY c.Writes∧wh c.R∧isU 2 c.Shards∧c.Parts.length≤8∧(∀ x∈c.Parts,BX x)∧zW c.Rule
def EJ (c:aC):aC :=
 if c.Kind=1 then {zC with Kind:=1,Epoch:=c.Epoch}
 else if c.Kind=2 then {zC with Kind:=2,Hold:=mG c.Hold}
 else if c.Kind=3 then {zC with Kind:=3,ID:=cId c.ID,E:=c.E,Epoch:=c.Epoch,Index:=c.Index,Writes:=ra c.Writes}
 else if c.Kind=4 then {zC with Kind:=4,ID:=cId c.ID,Epoch:=c.Epoch,Shards:=c.Shards,Parts:=c.Parts.map yZ,R:=uw c.R}
 else if c.Kind=5 then {zC with Kind:=5,ID:=cId c.ID}
 else if c.Kind=6 then {zC with Kind:=6,Rule:=wX c.Rule,On:=c.On}
 else if c.Kind=7 then {zC with Kind:=7,ID:=cId c.ID,Epoch:=c.Epoch,Rule:=wX c.Rule,Writes:=ra c.Writes,R:=uw c.R}
 else zC
theorem oI {β:Type} {P:β→Prop}:∀ x∈([]:List β),P x:=fun x h=>by cases h
theorem u0 (m:Nat):isU m 0:=⟨Int.le_refl _,by have:=Nat.pow_pos (n:=m) (show 0<256 by decide); omega⟩
theorem By:hJ zH:=⟨u0 8,u0 8,u0 8,oI,oI,oI,Nat.zero_le _,Nat.zero_le _,Nat.zero_le _,Nat.zero_le _,U8s.nil⟩
theorem BE:wh zR:=⟨u0 1,u0 8,u0 8,oI,oI,Nat.zero_le _,Nat.zero_le _⟩
theorem Dq:zW zL:=⟨u0 8,u0 1,u0 1,by show (0:Nat)<_; decide,by show (0:Nat)<_; decide,u0 8,u0 4⟩
theorem BT:qY []:=⟨Nat.zero_le _,oI⟩
theorem kinds {k:Int} (h:1≤k∧k≤7):k=1∨k=2∨k=3∨k=4∨k=5∨k=6∨k=7:=by omega
theorem kd (k:Int) (h:1≤k∧k≤7):1≤k∧k≤7:=h
end Go.Proofs.YtgnkkopjkgdieaaGreat

end
section
set_option linter.unusedVariables false
set_option linter.unusedSimpArgs false
set_option maxRecDepth 100000
namespace Go.Proofs.YtgnkkopjkgdieaaGreat
open Go Go.V
noncomputable def tr (p:Prop):Bool := @decide p (Classical.propDecidable p)
theorem zK {p:Prop}:tr p=true↔p:=by unfold tr; exact @decide_eq_true_iff p (Classical.propDecidable p)
theorem yV {p:Prop} (h:p):tr p=true:=zK.2 h
theorem xZ {p:Prop} (h:¬ p):tr p=false:=by cases e:tr p with | false=>rfl | true=>exact absurd (zK.1 e) h
theorem tM {p:Prop} {b:Bool} (h:b=true↔p):b=tr p:=by
 by_cases hp:p
 ·rw [yV hp,h.2 hp]
 ·rw [xZ hp]; cases b with | false=>rfl | true=>exact absurd (h.1 rfl) hp
theorem lN {p q:Prop} (h:p↔q):tr p=tr q:=tM (zK.trans h)
theorem oy {p q:Prop} {b:Bool} {X:Option Bool} (hb:b = !(tr p)) (h:p→X=some (tr q)):(bif b then some false else X)=some (tr (p∧q)):=by
 subst hb
 by_cases hp:p
 ·rw [yV hp,Bool.not_true,cond_false,h hp,lN (q:=p∧q) ⟨fun hq=>⟨hp,hq⟩,fun hq=>hq.2⟩]
 ·rw [xZ hp,Bool.not_false,cond_true,xZ fun h=>hp h.1]
theorem Em (a b:Int):(a !=b) = !(tr (a=b)):=by rw [← tM (b:=a==b) (by simp)]; rfl
theorem EM (a b:Int):(a==b)=tr (a=b):=tM (by simp)
theorem Fg {a b:List Int} (ha:U8s a) (hb:U8s b):sEq (jf a) (jf b)=tr (a=b):=by rw [AV ha hb]; exact tM (by simp)
theorem xw {α β:Type} (a:List α) (b:List β):(((a.length:Nat):Int) !=((b.length:Nat):Int)) = !(tr (a.length=b.length)):=by rw [Em]; exact congrArg _ (lN (by omega))
theorem tR {a b:Nat} (ha:isF a) (hb:isF b):eG a b=some (tr (cf a=cf b)):=by
 rw [nC ha hb,lN (Es ha hb)]
 exact congrArg _ (tM (by simp))
theorem stp {γ:Type} {p q:Prop} {X N Y:γ} (h:X=bif tr q then Y else N):(bif !(tr p) then N else X)=bif tr (p∧q) then Y else N:=by
 by_cases hp:p
 ·rw [yV hp,Bool.not_true,cond_false,h,lN (q:=p∧q) ⟨fun hq=>⟨hp,hq⟩,fun hq=>hq.2⟩]
 ·rw [xZ hp,Bool.not_false,cond_true,xZ fun h=>hp h.1,cond_false]
theorem Bc {γ:Type} {p:Prop} {N Y:γ}:(bif !(tr p) then N else Y)=bif tr p then Y else N:=by cases tr p <;> rfl
theorem cond_congr {γ:Type} {p q:Prop} {N Y:γ} (h:p↔q):(bif tr p then Y else N)=bif tr q then Y else N:=by rw [lN h]
theorem qE {α β R:Type} {body:Int→Option (Int ⊕ R)} (yes no:R) (c:α→β) (a b:List α) (hl:a.length=b.length) (hn:a.length≤1000000)
  (hstep : ∀ i (h:i<a.length),body (i:Int)=bif tr (c a[i]=c (b[i]'(hl ▸ h))) then some (Sum.inl (IntKind.i64.wrap ((i:Int)+(1:Int)))) else some (Sum.inr no))
  (hend : body (a.length:Int)=some (Sum.inr yes)):br body (0:Int)=some (bif tr (a.map c=b.map c) then yes else no):=by
 have key:∀ k,k≤a.length→br body ((a.length - k:Nat):Int)=some (bif tr ((a.drop (a.length - k)).map c=(b.drop (a.length - k)).map c) then yes else no):=by
  intro k
  induction k with
  | zero =>
   intro _
   have hb:b.drop (a.length - 0)=[]:=List.drop_eq_nil_of_le (by omega)
   have ha:a.drop (a.length - 0)=[]:=List.drop_eq_nil_of_le (by omega)
   rw [eA,Nat.sub_zero,hend]
   simp only [Nat.sub_zero] at ha hb
   rw [ha,hb,yV rfl]; rfl
  | succ k ih =>
   intro hk
   have hi:a.length - (k+1)<a.length:=by omega
   have e:IntKind.i64.wrap (((a.length - (k+1):Nat):Int)+(1:Int))=((a.length - k:Nat):Int):=by rw [wrap_i64] <;> omega
   have e2:a.length - (k+1)+1=a.length - k:=by omega
   have ha:a.drop (a.length - (k+1))=a[a.length - (k+1)]::a.drop (a.length - k):=by rw [List.drop_eq_getElem_cons hi,e2]
   have hb:b.drop (a.length - (k+1))=b[a.length - (k+1)]'(hl ▸ hi)::b.drop (a.length - k):=by rw [List.drop_eq_getElem_cons (hl ▸ hi),e2]
   rw [eA,hstep _ hi,e]
   by_cases hc:c a[a.length - (k+1)]=c (b[a.length - (k+1)]'(hl ▸ hi))
   ·rw [yV hc,cond_true]
    have h:=ih (by omega)
    rw [ha,hb,List.map_cons,List.map_cons]
    rw [lN (q:=(a.drop (a.length - k)).map c=(b.drop (a.length - k)).map c) (by simp [hc])]
    exact h
   ·rw [xZ hc,cond_false,ha,hb,List.map_cons,List.map_cons,xZ (by simp [hc])]
    rfl
 have h:=key a.length (Nat.le_refl _)
 simpa using h
theorem xL {α β:Type} {c:α→β} {a b:List α} {X:Option Bool} (h:a.length=b.length→X=some (tr (a.map c=b.map c))):(bif ((a.length:Nat):Int) !=((b.length:Nat):Int) then some false else X)=some (tr (a.map c=b.map c)):=by
 rw [oy (xw a b) h]
 exact congrArg _ (lN ⟨fun h=>h.2,fun h=>⟨by simpa using congrArg List.length h,h⟩⟩)
theorem xy {p:Prop}:(bif tr p then true else false)=tr p:=by cases tr p <;> rfl
theorem id_eq (x y:bK):(x.Session=y.Session∧x.Seq=y.Seq)↔x=y:=by cases x; cases y; simp
theorem Cd {R:Type} {p q:Prop} {f:Unit→Option Bool} (h:p→f ()=some (tr q)):iJ (some (bif tr p then (Sum.inl ():Unit ⊕ Bool) else Sum.inr false)) f=some (tr (p∧q)):=by
 by_cases hp:p
 ·rw [yV hp,cond_true]
  show f ()=_
  rw [h hp,lN (q:=p∧q) ⟨fun hq=>⟨hp,hq⟩,fun hq=>hq.2⟩]
 ·rw [xZ hp,cond_false,xZ fun h=>hp h.1]; rfl
theorem wO {a b:al} (ha:hJ a) (hb:hJ b):ja a b=some (tr (mG a=mG b)):=by
 obtain ⟨_,_,_,a4,a5,a6,a7,a8,a9,_,a10⟩:=ha
 obtain ⟨_,_,_,b4,b5,b6,b7,b8,b9,_,b10⟩:=hb
 unfold ja
 refine (oy (p:=a.ID.Session=b.ID.Session∧a.ID.Seq=b.ID.Seq) (q:=a.Epoch=b.Epoch∧a.Gets.length=b.Gets.length∧a.Scans.length=b.Scans.length∧a.Puts.length=b.Puts.length∧a.Data=b.Data∧a.Gets.map cf=b.Gets.map cf∧a.Scans.map oR=b.Scans.map oR∧a.Puts.map cf=b.Puts.map cf) ?_ fun _=>oy (Em _ _) fun _=>oy (xw _ _) fun hg=>oy (xw _ _) fun hs=>oy (xw _ _) fun hp=>oy (by rw [Fg a10 b10]) fun _=>?_).trans ?_
 ·exact congrArg _ (tM (by simp))
 ·have e1:br (fQ a b) (0:Int)=some (bif tr (a.Gets.map cf=b.Gets.map cf) then Sum.inl () else Sum.inr false):=by
   refine qE (body:=fQ a b) _ _ cf a.Gets b.Gets hg (by omega) (fun i hi=>?_) ?_
   ·have hi':i<b.Gets.length:=hg ▸ hi
    have e1:decide ((i:Int)<(a.Gets.length:Int))=true:=by simpa using hi
    simp only [fQ,e1,cond_true,bl hi,bl hi',Option.bind_some,tR (a4 _ (List.getElem_mem hi)) (b4 _ (List.getElem_mem hi')),bt,Option.map_some]
    exact Bc
   ·simp [fQ,bt]
  have e2:br (fM a b) (0:Int)=some (bif tr (a.Scans.map oR=b.Scans.map oR) then Sum.inl () else Sum.inr false):=by
   refine qE (body:=fM a b) _ _ oR a.Scans b.Scans hs (by omega) (fun i hi=>?_) ?_
   ·have hi':i<b.Scans.length:=hs ▸ hi
    have e1:decide ((i:Int)<(a.Scans.length:Int))=true:=by simpa using hi
    simp only [fM,e1,cond_true,bl hi,bl hi',Option.bind_some,tR (a5 _ (List.getElem_mem hi)).1 (b5 _ (List.getElem_mem hi')).1,tR (a5 _ (List.getElem_mem hi)).2 (b5 _ (List.getElem_mem hi')).2,bt,Option.map_some]
    rw [stp Bc]
    exact cond_congr (by simp [oR])
   ·simp [fM,bt]
  have e3:br (fL a b) (0:Int)=some (tr (a.Puts.map cf=b.Puts.map cf)):=by
   refine (qE (body:=fL a b) true false cf a.Puts b.Puts hp (by omega) (fun i hi=>?_) ?_).trans (congrArg some xy)
   ·have hi':i<b.Puts.length:=hp ▸ hi
    have e1:decide ((i:Int)<(a.Puts.length:Int))=true:=by simpa using hi
    simp only [fL,e1,cond_true,bl hi,bl hi',Option.bind_some,tR (a6 _ (List.getElem_mem hi)) (b6 _ (List.getElem_mem hi')),bt,Option.map_some]
    exact Bc
   ·simp [fL,bt]
  rw [e1]
  refine Cd (R:=Unit) fun _=>?_
  unfold lC
  rw [e2]
  exact Cd (R:=Unit) fun _=>e3
 ·refine congrArg _ (lN ?_)
  simp only [mG,al.mk.injEq,bK.mk.injEq]
  constructor
  ·rintro ⟨h1,h2,_,_,_,h3,h4,h5,h6⟩
   exact ⟨(id_eq _ _).1 h1,h2,h4,h5,h6,h3⟩
  ·rintro ⟨h1,h2,h4,h5,h6,h3⟩
   exact ⟨(id_eq _ _).2 h1,h2,by simpa using congrArg List.length h4,by simpa using congrArg List.length h5,by simpa using congrArg List.length h6,h3,h4,h5,h6⟩
end Go.Proofs.YtgnkkopjkgdieaaGreat

end
section
set_option linter.unusedVariables false
set_option linter.unusedSimpArgs false
set_option maxRecDepth 100000
namespace Go.Proofs.YtgnkkopjkgdieaaGreat
open Go Go.V
def TP {α:Type} (f:ak→Option (α×ak)) (P:α→Prop):Prop:=∀ t,pI t→∃ x t',f t=some (x,t')∧P x∧pI t'
theorem TP.ret {α:Type} {P:α→Prop} {x:α} (h:P x):TP (fun r=>some (x,r)) P:=fun r hr=>⟨x,r,rfl,h,hr⟩
theorem TP.bind {α β:Type} {f:ak→Option (α×ak)} {g:α×ak→Option (β×ak)} {P:α→Prop} {Q:β→Prop} (hf:TP f P) (hg:∀ x,P x→TP (fun r=>g (x,r)) Q):TP (fun r=>(f r).bind g) Q:=fun r hr=>by
 obtain ⟨x,r',h1,h2,h3⟩:=hf r hr
 obtain ⟨y,r2,k1,k2,k3⟩:=hg x h2 r' h3
 exact ⟨y,r2,by show (f r).bind g=_; rw [h1,Option.bind_some]; exact k1,k2,k3⟩
theorem TP.of {α:Type} {f g:ak→Option (α×ak)} {P:α→Prop} (h:∀ r,f r=g r) (hg:TP g P):TP f P:=fun r hr=>by rw [h]; exact hg r hr
theorem TP.imp {α:Type} {f:ak→Option (α×ak)} {P Q:α→Prop} (hf:TP f P) (h:∀ x,P x→Q x):TP f Q:=fun r hr=>by
 obtain ⟨x,r',h1,h2,h3⟩:=hf r hr
 exact ⟨x,r',h1,h x h2,h3⟩
theorem TP.next (n:Int) (h:0<n:=by decide) (h2:n≤1000000000:=by decide):TP (fun t=>aF t n) (fun v=>0≤v∧v<n):=fun t ht=>by
 obtain ⟨v,t',a,b,c,d,_⟩:=AN ht h h2
 exact ⟨v,t',a,⟨b,c⟩,d⟩
def isN (x:Nat):Prop:=isF x∧cf x=x
theorem TP.float:TP (fun t=>cU t) isN:=fun t ht=>by
 obtain ⟨f,t',a,b,c⟩:=zq ht
 exact ⟨f,t',a,⟨b.1,zZ b.1 b.2⟩,c⟩
section
variable {α S R:Type} {body:S→Option (S ⊕ R)} (st:ak→List α→Int→S) (out:ak→List α→R) {F:Int→ak→Option (α×ak)}
theorem TP.loop {P:α→Prop} (n:Int) (hn:n≤1000000) (h0:0≤n) (hF:∀ i,0≤i→i<n→TP (F i) P)
  (hb : ∀ r acc i,i<n→body (st r acc i)=(F i r).bind fun t=>gd (room acc [t.1]) (some (Sum.inl (st t.2 (acc++[t.1]) (IntKind.i64.wrap (i+(1:Int)))))))
  (hend : ∀ r acc i,¬ i<n→body (st r acc i)=some (Sum.inr (out r acc))) (r:ak) (hr:pI r) :
  ∃ r' acc,br body (st r [] (0:Int))=some (out r' acc)∧pI r'∧(∀ x∈acc,P x)∧(acc.length:Int)≤n:=by
 have key:∀ (k:Nat) (r:ak) (acc:List α) (i:Int),pI r→(acc.length:Int)=i→i≤n→(∀ x∈acc,P x)→(n - i).toNat≤k→∃ r' acc',br body (st r acc i)=some (out r' acc')∧pI r'∧(∀ x∈acc',P x)∧(acc'.length:Int)≤n:=by
  intro k
  induction k with
  | zero =>
   intro r acc i hr ha hi hP hk
   have hni:¬ i<n:=by omega
   exact ⟨r,acc,by rw [eA,hend r acc i hni]; rfl,hr,hP,by omega⟩
  | succ k ih =>
   intro r acc i hr ha hi hP hk
   by_cases hlt:i<n
   ·obtain ⟨x,r',h1,h2,h3⟩:=hF i (by omega) hlt r hr
    have e1:IntKind.i64.wrap (i+(1:Int))=i+1:=by rw [wrap_i64] <;> omega
    obtain ⟨r2,acc2,g1,g2,g3,g4⟩:=ih r' (acc++[x]) (i+1) h3 (by simp only [List.length_append,List.length_cons,List.length_nil]; omega) (by omega) (fun y hy=>by
     rcases List.mem_append.1 hy with hy | hy
     ·exact hP y hy
     ·cases List.mem_singleton.1 hy; exact h2) (by omega)
    refine ⟨r2,acc2,?_,g2,g3,g4⟩
    rw [eA,hb r acc i hlt,h1,Option.bind_some,db (jH (by simp only [List.length_cons,List.length_nil]; omega)),e1]
    exact g1
   ·exact ⟨r,acc,by rw [eA,hend r acc i hlt]; rfl,hr,hP,by omega⟩
 exact key (n - 0).toNat r [] 0 hr rfl h0 (fun x hx=>by cases hx) (Nat.le_refl _)
theorem TP.tl {γ:Type} {P:α→Prop} {Q:γ→Prop} {fin:R→Option (γ×ak)} (n:Int) (hn:n≤1000000) (h0:0≤n) (hF:∀ i,0≤i→i<n→TP (F i) P)
  (hb : ∀ r acc i,i<n→body (st r acc i)=(F i r).bind fun t=>gd (room acc [t.1]) (some (Sum.inl (st t.2 (acc++[t.1]) (IntKind.i64.wrap (i+(1:Int)))))))
  (hend : ∀ r acc i,¬ i<n→body (st r acc i)=some (Sum.inr (out r acc)))
  (hfin : ∀ acc,(∀ x∈acc,P x)→(acc.length:Int)≤n→TP (fun r=>fin (out r acc)) Q):TP (fun r=>(br body (st r [] (0:Int))).bind fin) Q:=fun r hr=>by
 obtain ⟨r',acc,h1,h2,h3,h4⟩:=TP.loop st out n hn h0 hF hb hend r hr
 obtain ⟨y,r2,k1,k2,k3⟩:=hfin acc h3 h4 r' h2
 exact ⟨y,r2,by show (br body (st r [] (0:Int))).bind fin=_; rw [h1,Option.bind_some]; exact k1,k2,k3⟩
end
theorem TP.val:TP (fun t=>eO t) (fun l=>l.length≤3∧U8s l):=by
 refine TP.of (g:=fun t=>(aF t (4:Int)).bind fun u=>(br (fY u) (u.2,[],(0:Int))).bind fun s=>some s) (fun t=>bnd fun u=>(tx _).symm) ?_
 refine TP.bind (TP.next 4) fun n hn r hr=>?_
 refine TP.tl (P:=zG) (body:=fY (n,r)) (F:=fun _ t=>(aF t (26:Int)).bind fun u=>some (IntKind.u8.wrap (IntKind.i64.wrap ((97:Int)+u.1)),u.2)) (fun t acc i=>(t,acc,i)) (fun t acc=>(acc,t)) n (by omega) hn.1 (fun i _ _=>?_) (fun t acc i hi=>?_) (fun t acc i hi=>?_) (fun acc h1 h2=>?_) r hr
 ·refine TP.bind (TP.next 26) fun v hv=>?_
  dsimp only
  have e1:IntKind.i64.wrap ((97:Int)+v)=97+v:=by rw [wrap_i64] <;> omega
  have e2:IntKind.u8.wrap (97+v)=97+v:=by rw [wrap_u8] <;> omega
  rw [e1,e2]
  exact TP.ret ⟨by omega,by omega⟩
 ·have e:decide (i<n)=true:=by simpa using hi
  simp only [fY,e,cond_true,Option.bind_assoc,Option.bind_some]
 ·have e:decide (i<n)=false:=by simpa using hi
  simp only [fY,e,cond_false,bt,Option.map_some]
 ·exact TP.ret ⟨by omega,h1⟩
theorem Fa {m:Nat} {v:Int} (h0:0≤v) (h:v<((256 ^ m:Nat):Int)):isU m v:=⟨h0,h⟩
theorem map_id' {β:Type} {l:List β} {f:β→β} (h:∀ x∈l,f x=x):l.map f=l:=by
 induction l with
 | nil=>rfl
 | cons x l ih=>rw [List.map_cons,h x (by simp),ih fun y hy=>h y (by simp [hy])]
theorem sC {v:Int} (h0:0≤v) (h:v<256):isU 8 (IntKind.u64.wrap v):=by rw [mE h0 (by omega)]; exact ⟨h0,by rw [pw8]; omega⟩
theorem qO {v:Int} (h0:0≤v) (h:v<256):isU 8 (IntKind.u64.wrap (IntKind.i64.wrap ((1:Int)+v))):=by
 have e:IntKind.i64.wrap ((1:Int)+v)=1+v:=by rw [wrap_i64] <;> omega
 rw [e,mE (by omega) (by omega)]
 exact ⟨by omega,by rw [pw8]; omega⟩
theorem TP.of_:TP (fun t=>eC t) idG:=by
 refine TP.bind (TP.next 4) fun a ha=>?_
 dsimp only
 refine TP.bind (TP.next 4) fun b hb=>?_
 dsimp only
 exact TP.ret (P:=idG) ⟨sC ha.1 (by omega),qO hb.1 (by omega)⟩
theorem half {v:Int} (h:0≤v∧v<3):0≤IntKind.i64.wrap (Int.tdiv v 2)∧IntKind.i64.wrap (Int.tdiv v 2)≤1:=by
 have : v=0∨v=1∨v=2:=by omega
 rcases this with rfl | rfl | rfl <;> decide
def En (h:al):Prop:=hJ h∧mG h=h
theorem BJ {l:List Nat} (h:∀ x∈l,isN x):l.map cf=l:=by
 rw [List.map_congr_left (g:=id) fun x hx=>(h x hx).2,List.map_id]
def rt:ak:={L:=[],I:=0}
theorem DB (t:ak):iv t=(eC t).bind fun id=>(aF id.2 (4:Int)).bind fun ep=>(aF ep.2 (3:Int)).bind fun n=>(br (fv (n.1,rt)) ([],n.2,(0:Int))).bind fun s=>(aF s.1 (3:Int)).bind fun m=>(br (fD (m.1,rt)) ([],m.2,(0:Int))).bind fun s2=>(aF s2.1 (3:Int)).bind fun k=>(br (fx (k.1,rt)) ([],k.2,(0:Int))).bind fun s3=>(aF s3.1 (4:Int)).bind fun d=>(bif d.1==(0:Int) then eO d.2 else some ([],d.2)).bind fun v=>some (({ID:=id.1,Epoch:=IntKind.u64.wrap (IntKind.i64.wrap ((1:Int)+ep.1)),Gets:=s.2,Scans:=s2.2,Puts:=s3.2,Data:=v.1}:al),v.2):=by
 unfold iv
 refine bnd fun id=>bnd fun ep=>bnd fun n=>bnd ?_
 rintro ⟨t1,g⟩
 refine bnd fun m=>bnd ?_
 rintro ⟨t2,s⟩
 refine bnd fun k=>bnd ?_
 rintro ⟨t3,p⟩
 refine bnd fun d=>?_
 cases d.1==(0:Int) <;> rfl
theorem TP.hold:TP (fun t=>iv t) En:=by
 refine TP.of DB ?_
 refine TP.bind TP.of_ fun id hid=>?_
 dsimp only
 refine TP.bind (TP.next 4) fun ep hep=>?_
 dsimp only
 refine TP.bind (TP.next 3) fun n hn=>?_
 dsimp only
 refine TP.tl (P:=isN) (body:=fv (n,rt)) (F:=fun _ t=>cU t) (fun t acc i=>(acc,t,i)) (fun t acc=>(t,acc)) n (by omega) hn.1 (fun i _ _=>TP.float) (fun t acc i hi=>?_) (fun t acc i hi=>?_) (fun gets g1 g2=>?_)
 ·have e:decide (i<n)=true:=by simpa using hi
  simp only [fv,e,cond_true]
 ·have e:decide (i<n)=false:=by simpa using hi
  simp only [fv,e,cond_false,bt,Option.map_some]
 dsimp only
 refine TP.bind (TP.next 3) fun m hm=>?_
 dsimp only
 obtain ⟨q1,q2⟩:=half hm
 refine TP.tl (P:=fun x:Nat×Nat=>isN x.1∧isN x.2) (body:=fD (m,rt)) (F:=fun _ t=>(cU t).bind fun a=>(cU a.2).bind fun b=>some ((a.1,b.1),b.2)) (fun t acc i=>(acc,t,i)) (fun t acc=>(t,acc)) (IntKind.i64.wrap (Int.tdiv m 2)) (by omega) q1 (fun i _ _=>?_) (fun t acc i hi=>?_) (fun t acc i hi=>?_) (fun scans s1 s2=>?_)
 ·refine TP.bind TP.float fun a ha=>?_
  dsimp only
  refine TP.bind TP.float fun b hb=>?_
  dsimp only
  exact TP.ret (P:=fun x:Nat×Nat=>isN x.1∧isN x.2) ⟨ha,hb⟩
 ·have e:decide (i<IntKind.i64.wrap (Int.tdiv m 2))=true:=by simpa using hi
  simp only [fD,e,cond_true,Option.bind_assoc,Option.bind_some]
 ·have e:decide (i<IntKind.i64.wrap (Int.tdiv m 2))=false:=by simpa using hi
  simp only [fD,e,cond_false,bt,Option.map_some]
 dsimp only
 refine TP.bind (TP.next 3) fun k hk=>?_
 dsimp only
 refine TP.tl (P:=isN) (body:=fx (k,rt)) (F:=fun _ t=>cU t) (fun t acc i=>(acc,t,i)) (fun t acc=>(t,acc)) k (by omega) hk.1 (fun i _ _=>TP.float) (fun t acc i hi=>?_) (fun t acc i hi=>?_) (fun puts p1 p2=>?_)
 ·have e:decide (i<k)=true:=by simpa using hi
  simp only [fx,e,cond_true]
 ·have e:decide (i<k)=false:=by simpa using hi
  simp only [fx,e,cond_false,bt,Option.map_some]
 dsimp only
 refine TP.bind (TP.next 4) fun d hd=>?_
 dsimp only
 refine TP.bind (P:=fun l=>l.length≤3∧U8s l) ?_ fun v hv=>?_
 ·cases d==(0:Int) with
  | true=>exact TP.val
  | false=>exact TP.ret ⟨by decide,U8s.nil⟩
 dsimp only
 refine TP.ret (P:=En) ⟨⟨hid.1,hid.2,qO hep.1 (by omega),fun x hx=>(g1 x hx).1,fun x hx=>⟨(s1 x hx).1.1,(s1 x hx).2.1⟩,fun x hx=>(p1 x hx).1,?_,?_,?_,?_,hv.2⟩,?_⟩
 ·show gets.length≤32; omega
 ·show scans.length≤32; omega
 ·show puts.length≤32; omega
 ·show v.length≤257; omega
 ·have e:scans.map oR=scans:=by
   rw [List.map_congr_left (g:=_root_.id) fun x hx=>by show (cf x.1,cf x.2)=x; rw [(s1 x hx).1.2,(s1 x hx).2.2],List.map_id]
  simp only [mG,BJ g1,BJ p1,e]
def Am (l:List bN):Prop:=qY l∧ra l=l
theorem TP.writes:TP (fun t=>fp t) Am:=by
 refine TP.of (g:=fun t=>(aF t (3:Int)).bind fun u=>(br (fU (u.1,rt)) (u.2,[],(0:Int))).bind fun s=>some s) (fun t=>bnd fun u=>(tx _).symm) ?_
 refine TP.bind (TP.next 3) fun n hn=>?_
 dsimp only
 refine TP.tl (P:=fun x=>zE x∧xP x=x) (body:=fU (n,rt)) (F:=fun _ t=>(cU t).bind fun f=>(aF f.2 (4:Int)).bind fun d=>(bif !(d.1==(0:Int)) then eO d.2 else some ([],d.2)).bind fun v=>some (({At:=f.1,Del:=d.1==(0:Int),Val:=v.1}:bN),v.2)) (fun t acc i=>(t,acc,i)) (fun t acc=>(acc,t)) n (by omega) hn.1 (fun i _ _=>?_) (fun t acc i hi=>?_) (fun t acc i hi=>?_) (fun acc h1 h2=>?_)
 ·refine TP.bind TP.float fun f hf=>?_
  dsimp only
  refine TP.bind (TP.next 4) fun d hd=>?_
  dsimp only
  refine TP.bind (P:=fun l=>l.length≤3∧U8s l) ?_ fun v hv=>?_
  ·cases !(d==(0:Int)) with
   | true=>exact TP.val
   | false=>exact TP.ret ⟨by decide,U8s.nil⟩
  dsimp only
  refine TP.ret (P:=fun x=>zE x∧xP x=x) ⟨⟨hf.1,?_,hv.2⟩,?_⟩
  ·show v.length≤256; omega
  ·simp only [xP,hf.2]
 ·have e:decide (i<n)=true:=by simpa using hi
  simp only [fU,e,cond_true,Option.bind_assoc]
  refine bnd fun f=>bnd fun d=>?_
  cases !(d.1==(0:Int)) with
  | true=>simp only [cond_true,Option.bind_assoc]; exact bnd fun v=>rfl
  | false=>rfl
 ·have e:decide (i<n)=false:=by simpa using hi
  simp only [fU,e,cond_false,bt,Option.map_some]
 ·refine TP.ret (P:=Am) ⟨⟨by omega,fun x hx=>(h1 x hx).1⟩,?_⟩
  rw [ra,List.map_congr_left (g:=_root_.id) fun x hx=>(h1 x hx).2,List.map_id]
def CZ (x:bp):Prop:=wh x∧uw x=x
theorem Bp (t:ak):gX t=(aF t (6:Int)).bind fun e=>(da ([(0:Int),(0:Int),(0:Int),(8:Int),(9:Int),(3:Int)]) e.1).bind fun x=>(aF e.2 (4:Int)).bind fun p=>(aF p.2 (9:Int)).bind fun q=>(aF q.2 (3:Int)).bind fun n=>(br (gR (n.1,rt)) ([],n.2,(0:Int))).bind fun s=>(aF s.1 (3:Int)).bind fun m=>(br (gS (m.1,rt) x (IntKind.u64.wrap p.1) (IntKind.u64.wrap q.1) s.2) ([],m.2,(0:Int))).bind fun s=>some s:=by
 simp only [gX,Option.bind_assoc,Option.bind_some,lZ]
 refine bnd fun e=>bnd fun x=>bnd fun p=>bnd fun q=>bnd fun n=>bnd ?_
 rintro ⟨t1,g⟩
 exact bnd fun m=>(tx _).symm
theorem TP.Ai:TP (fun t=>gX t) CZ:=by
 refine TP.of Bp ?_
 refine TP.bind (TP.next 6) fun e he=>?_
 dsimp only
 have hg:∃ x:Int,da ([(0:Int),(0:Int),(0:Int),(8:Int),(9:Int),(3:Int)]) e=some x∧isU 1 x:=by
  have : e=0∨e=1∨e=2∨e=3∨e=4∨e=5:=by omega
  rcases this with rfl | rfl | rfl | rfl | rfl | rfl <;> exact ⟨_,rfl,by decide,by decide⟩
 obtain ⟨x,hx,hx1⟩:=hg
 simp only [hx,Option.bind_some]
 refine TP.bind (TP.next 4) fun p hp=>?_
 dsimp only
 refine TP.bind (TP.next 9) fun q hq=>?_
 dsimp only
 refine TP.bind (TP.next 3) fun n hn=>?_
 dsimp only
 refine TP.tl (P:=EE) (body:=gR (n,rt)) (F:=fun _ t=>(aF t (2:Int)).bind fun a=>(eO a.2).bind fun v=>some (({Has:=a.1==(0:Int),Val:=v.1}:cp),v.2)) (fun t acc i=>(acc,t,i)) (fun t acc=>(t,acc)) n (by omega) hn.1 (fun i _ _=>?_) (fun t acc i hi=>?_) (fun t acc i hi=>?_) (fun gots g1 g2=>?_)
 ·refine TP.bind (TP.next 2) fun a ha=>?_
  dsimp only
  refine TP.bind TP.val fun v hv=>?_
  dsimp only
  exact TP.ret (P:=EE) ⟨by show v.length≤256; omega,hv.2⟩
 ·have e:decide (i<n)=true:=by simpa using hi
  simp only [gR,e,cond_true,Option.bind_assoc,Option.bind_some]
 ·have e:decide (i<n)=false:=by simpa using hi
  simp only [gR,e,cond_false,bt,Option.map_some]
 dsimp only
 refine TP.bind (TP.next 3) fun m hm=>?_
 dsimp only
 obtain ⟨q1,q2⟩:=half hm
 refine TP.tl (P:=fun l=>zk l∧vZ l=l) (body:=gS (m,rt) x (IntKind.u64.wrap p) (IntKind.u64.wrap q) gots) (F:=fun _ t=>(aF t (3:Int)).bind fun k=>(br (gV (k.1,rt)) (k.2,(0:Int),[])).bind fun s=>some (s.2,s.1)) (fun t acc i=>(acc,t,i)) (fun t acc=>(({E:=x,Epoch:=IntKind.u64.wrap p,Index:=IntKind.u64.wrap q,Gots:=gots,Scans:=acc}:bp),t)) (IntKind.i64.wrap (Int.tdiv m 2)) (by omega) q1 (fun i _ _=>?_) (fun t acc i hi=>?_) (fun t acc i hi=>?_) (fun scans s1 s2=>?_)
 ·refine TP.bind (TP.next 3) fun k hk=>?_
  dsimp only
  refine TP.tl (P:=fun y=>Ck y∧Ar y=y) (body:=gV (k,rt)) (F:=fun _ t=>(cU t).bind fun f=>(eO f.2).bind fun v=>some (({At:=f.1,Val:=v.1}:bM),v.2)) (fun t acc i=>(t,i,acc)) (fun t acc=>(t,acc)) k (by omega) hk.1 (fun i _ _=>?_) (fun t acc i hi=>?_) (fun t acc i hi=>?_) (fun l l1 l2=>?_)
  ·refine TP.bind TP.float fun f hf=>?_
   dsimp only
   refine TP.bind TP.val fun v hv=>?_
   dsimp only
   exact TP.ret (P:=fun y=>Ck y∧Ar y=y) ⟨⟨hf.1,by show v.length≤256; omega,hv.2⟩,by simp only [Ar,hf.2]⟩
  ·have e:decide (i<k)=true:=by simpa using hi
   simp only [gV,e,cond_true,Option.bind_assoc,Option.bind_some]
  ·have e:decide (i<k)=false:=by simpa using hi
   simp only [gV,e,cond_false,bt,Option.map_some]
  ·refine TP.ret (P:=fun l=>zk l∧vZ l=l) ⟨⟨by omega,fun y hy=>(l1 y hy).1⟩,?_⟩
   rw [vZ,List.map_congr_left (g:=_root_.id) fun y hy=>(l1 y hy).2,List.map_id]
 ·have e:decide (i<IntKind.i64.wrap (Int.tdiv m 2))=true:=by simpa using hi
  simp only [gS,e,cond_true,Option.bind_assoc,Option.bind_some]
  refine bnd fun k=>bnd ?_
  rintro ⟨t1,l⟩
  rfl
 ·have e:decide (i<IntKind.i64.wrap (Int.tdiv m 2))=false:=by simpa using hi
  simp only [gS,e,cond_false,bt,Option.map_some]
 ·refine TP.ret (P:=CZ) ⟨⟨hx1,sC hp.1 (by omega),sC hq.1 (by omega),g1,fun l hl=>(s1 l hl).1,?_,?_⟩,?_⟩
  ·show gots.length≤32; omega
  ·show scans.length≤32; omega
  ·have e1:gots.map Fs=gots:=map_id' fun y _=>rfl
   have e2:scans.map vZ=scans:=by rw [List.map_congr_left (g:=_root_.id) fun y hy=>(s1 y hy).2,List.map_id]
   simp only [uw,e1,e2]
end Go.Proofs.YtgnkkopjkgdieaaGreat

end
section
set_option linter.unusedVariables false
set_option linter.unusedSimpArgs false
set_option maxRecDepth 100000
namespace Go.Proofs.YtgnkkopjkgdieaaGreat
open Go Go.V
def Eo (x:dr):Prop:=zW x∧wX x=x
theorem TP.kj:TP (fun t=>kH t) Eo:=by
 refine TP.bind (TP.next 3) fun a ha=>?_
 dsimp only
 refine TP.bind (TP.next 4) fun b hb=>?_
 dsimp only
 refine TP.bind (TP.next 4) fun c hc=>?_
 dsimp only
 refine TP.bind TP.float fun lo hlo=>?_
 dsimp only
 refine TP.bind TP.float fun hi hhi=>?_
 dsimp only
 refine TP.bind (TP.next 2) fun d hd=>?_
 dsimp only
 refine TP.bind (TP.next 3) fun e he=>?_
 dsimp only
 have hb1:isU 1 b:=⟨hb.1,by rw [pw1]; omega⟩
 have hc1:isU 1 c:=⟨hc.1,by rw [pw1]; omega⟩
 have he1:isU 4 e:=⟨he.1,by rw [pw4]; omega⟩
 exact TP.ret (P:=Eo) ⟨⟨sC ha.1 (by omega),hb1,hc1,hlo.1,hhi.1,sC hd.1 (by omega),he1⟩,by simp only [wX,hlo.2,hhi.2]⟩
def xX (c:aC):Prop:=Df c∧EJ c=c
theorem zV (t:ak):eU t=(aF t (7:Int)).bind fun a =>
  bif (IntKind.u8.wrap (IntKind.i64.wrap ((1:Int)+a.1)))==(1:Int) then (aF a.2 (4:Int)).bind fun p=>some ({zC with Kind:=IntKind.u8.wrap (IntKind.i64.wrap ((1:Int)+a.1)),Epoch:=IntKind.u64.wrap (IntKind.i64.wrap ((1:Int)+p.1))},p.2) else
  bif (IntKind.u8.wrap (IntKind.i64.wrap ((1:Int)+a.1)))==(2:Int) then (iv a.2).bind fun h=>some ({zC with Kind:=IntKind.u8.wrap (IntKind.i64.wrap ((1:Int)+a.1)),Hold:=h.1},h.2) else
  bif (IntKind.u8.wrap (IntKind.i64.wrap ((1:Int)+a.1)))==(3:Int) then (eC a.2).bind fun i=>(aF i.2 (3:Int)).bind fun e=>(da ([(0:Int),(0:Int),(8:Int)]) e.1).bind fun x=>(aF e.2 (4:Int)).bind fun p=>(aF p.2 (20:Int)).bind fun q=>(fp q.2).bind fun w=>some ({zC with Kind:=IntKind.u8.wrap (IntKind.i64.wrap ((1:Int)+a.1)),ID:=i.1,Epoch:=IntKind.u64.wrap (IntKind.i64.wrap ((1:Int)+p.1)),Index:=IntKind.u64.wrap q.1,E:=x,Writes:=w.1},w.2) else
  bif (IntKind.u8.wrap (IntKind.i64.wrap ((1:Int)+a.1)))==(4:Int) then (eC a.2).bind fun i=>(aF i.2 (6:Int)).bind fun b=>(aF b.2 (4:Int)).bind fun p=>(aF p.2 (4:Int)).bind fun q=>(aF q.2 (3:Int)).bind fun n=>(br (dP (n.1,rt)) ([],n.2,(0:Int))).bind fun s=>(gX s.1).bind fun x=>some ({zC with Kind:=IntKind.u8.wrap (IntKind.i64.wrap ((1:Int)+a.1)),ID:={Session:=bif b.1==(0:Int) then IntKind.u64.wrap (i.1.Session+(9223372036854775808:Int)) else i.1.Session,Seq:=i.1.Seq},Epoch:=IntKind.u64.wrap (IntKind.i64.wrap ((1:Int)+p.1)),Shards:=IntKind.u64.wrap q.1,Parts:=s.2,R:=x.1},x.2) else
  bif (IntKind.u8.wrap (IntKind.i64.wrap ((1:Int)+a.1)))==(5:Int) then (eC a.2).bind fun i=>some ({zC with Kind:=IntKind.u8.wrap (IntKind.i64.wrap ((1:Int)+a.1)),ID:=i.1},i.2) else
  bif (IntKind.u8.wrap (IntKind.i64.wrap ((1:Int)+a.1)))==(6:Int) then (kH a.2).bind fun r=>(aF r.2 (3:Int)).bind fun o=>some ({zC with Kind:=IntKind.u8.wrap (IntKind.i64.wrap ((1:Int)+a.1)),Rule:=r.1,On:=decide (o.1>(0:Int))},o.2) else
  bif (IntKind.u8.wrap (IntKind.i64.wrap ((1:Int)+a.1)))==(7:Int) then (eC a.2).bind fun i=>(aF i.2 (4:Int)).bind fun p=>(kH p.2).bind fun r=>(fp r.2).bind fun w=>(gX w.2).bind fun x=>some ({zC with Kind:=IntKind.u8.wrap (IntKind.i64.wrap ((1:Int)+a.1)),ID:=i.1,Epoch:=IntKind.u64.wrap (IntKind.i64.wrap ((1:Int)+p.1)),Rule:=r.1,Writes:=w.1,R:=x.1},x.2) else
  some ({zC with Kind:=IntKind.u8.wrap (IntKind.i64.wrap ((1:Int)+a.1))},a.2):=by
 unfold eU
 refine bnd fun a=>?_
 generalize hk:IntKind.u8.wrap (IntKind.i64.wrap ((1:Int)+a.1))=k
 cases k==(1:Int) with
 | true=>rfl
 | false =>
 cases k==(2:Int) with
 | true=>rfl
 | false =>
 cases k==(3:Int) with
 | true=>rfl
 | false =>
 cases k==(4:Int) with
 | true =>
  simp only [cond_true,cond_false,Option.bind_assoc]
  refine bnd fun i=>bnd fun b=>?_
  cases b.1==(0:Int) with
  | true =>
   simp only [cond_true,Option.bind_some,iZ]
   refine bnd fun p=>bnd fun q=>bnd fun n=>bnd ?_
   rintro ⟨t1,l⟩
   subst hk; rfl
  | false =>
   simp only [cond_false,Option.bind_some,iZ]
   refine bnd fun p=>bnd fun q=>bnd fun n=>bnd ?_
   rintro ⟨t1,l⟩
   subst hk; rfl
 | false =>
 cases k==(5:Int) with
 | true=>rfl
 | false =>
 cases k==(6:Int) with
 | true=>rfl
 | false =>
 cases k==(7:Int) with
 | true=>rfl
 | false=>rfl
theorem TP.command:TP (fun t=>eU t) xX:=by
 refine TP.of zV ?_
 refine TP.bind (TP.next 7) fun a ha=>?_
 dsimp only
 have ek:IntKind.u8.wrap (IntKind.i64.wrap ((1:Int)+a))=1+a:=by
  rw [wrap_i64 (by omega) (by omega),wrap_u8] <;> omega
 rw [ek]
 have hh:∀ h:al,mG h=h→EJ {zC with Kind:=2,Hold:=h}={zC with Kind:=2,Hold:=h}:=fun h e=>by simp only [EJ,if_true,if_false,Int.reduceEq,e]
 have : a=0∨a=1∨a=2∨a=3∨a=4∨a=5∨a=6:=by omega
 rcases this with rfl | rfl | rfl | rfl | rfl | rfl | rfl
 ·refine TP.bind (TP.next 4) fun p hp=>?_
  dsimp only
  exact TP.ret (P:=xX) ⟨⟨kd 1 (by decide),⟨u0 8,u0 8⟩,qO hp.1 (by omega),u0 8,u0 1,By,BT,BE,u0 2,Nat.zero_le _,oI,Dq⟩,rfl⟩
 ·refine TP.bind TP.hold fun h hh=>?_
  dsimp only
  exact TP.ret (P:=xX) ⟨⟨kd 2 (by decide),⟨u0 8,u0 8⟩,u0 8,u0 8,u0 1,hh.1,BT,BE,u0 2,Nat.zero_le _,oI,Dq⟩,by show ({zC with Kind:=2,Hold:=mG h}:aC)=_; rw [hh.2]; rfl⟩
 ·refine TP.bind TP.of_ fun i hi=>?_
  dsimp only
  refine TP.bind (TP.next 3) fun e he=>?_
  dsimp only
  have hg:∃ x:Int,da ([(0:Int),(0:Int),(8:Int)]) e=some x∧isU 1 x:=by
   have : e=0∨e=1∨e=2:=by omega
   rcases this with rfl | rfl | rfl <;> exact ⟨_,rfl,by decide,by decide⟩
  obtain ⟨x,hx,hx1⟩:=hg
  simp only [hx,Option.bind_some]
  refine TP.bind (TP.next 4) fun p hp=>?_
  dsimp only
  refine TP.bind (TP.next 20) fun q hq=>?_
  dsimp only
  refine TP.bind TP.writes fun w hw=>?_
  dsimp only
  exact TP.ret (P:=xX) ⟨⟨kd 3 (by decide),hi,qO hp.1 (by omega),sC hq.1 (by omega),hx1,By,hw.1,BE,u0 2,Nat.zero_le _,oI,Dq⟩,by show ({zC with Kind:=3,ID:=cId i,E:=x,Epoch:=_,Index:=_,Writes:=ra w}:aC)=_; rw [hw.2]; rfl⟩
 ·refine TP.bind TP.of_ fun i hi=>?_
  dsimp only
  refine TP.bind (TP.next 6) fun b hb=>?_
  dsimp only
  refine TP.bind (TP.next 4) fun p hp=>?_
  dsimp only
  refine TP.bind (TP.next 4) fun q hq=>?_
  dsimp only
  refine TP.bind (TP.next 3) fun n hn=>?_
  dsimp only
  refine TP.tl (P:=fun y=>BX y∧yZ y=y) (body:=dP (n,rt)) (F:=fun i t=>(fp t).bind fun w=>some (({Shard:=i,Writes:=w.1}:dX),w.2)) (fun t acc i=>(acc,t,i)) (fun t acc=>(t,acc)) n (by omega) hn.1 (fun j j0 j1=>?_) (fun t acc i hi=>?_) (fun t acc i hi=>?_) (fun parts p1 p2=>?_)
  ·refine TP.bind TP.writes fun w hw=>?_
   dsimp only
   exact TP.ret (P:=fun y=>BX y∧yZ y=y) ⟨⟨Fa (m:=1) j0 (by rw [pw1]; show j<256; omega),hw.1⟩,by simp only [yZ,hw.2]⟩
  ·have e:decide (i<n)=true:=by simpa using hi
   simp only [dP,e,cond_true,Option.bind_assoc,Option.bind_some]
  ·have e:decide (i<n)=false:=by simpa using hi
   simp only [dP,e,cond_false,bt,Option.map_some]
  dsimp only
  refine TP.bind TP.Ai fun x hx=>?_
  dsimp only
  have hid:idG {Session:=bif b==(0:Int) then IntKind.u64.wrap (i.Session+(9223372036854775808:Int)) else i.Session,Seq:=i.Seq}:=by
   refine ⟨?_,hi.2⟩
   cases b==(0:Int) with
   | false=>exact hi.1
   | true =>
    show isU 8 (IntKind.u64.wrap (i.Session+(9223372036854775808:Int)))
    rw [lP]
    exact ⟨by omega,by rw [pw8]; omega⟩
  have hq2:isU 2 (IntKind.u64.wrap q):=by rw [mE (by omega) (by omega)]; exact ⟨hq.1,by rw [pw2]; omega⟩
  refine TP.ret (P:=xX) ⟨⟨kd 4 (by decide),hid,qO hp.1 (by omega),u0 8,u0 1,By,BT,hx.1,hq2,?_,fun y hy=>(p1 y hy).1,Dq⟩,?_⟩
  ·show parts.length≤8; omega
  ·show ({zC with Kind:=4,ID:=_,Epoch:=_,Shards:=_,Parts:=parts.map yZ,R:=uw x}:aC)=_
   rw [hx.2,map_id' fun y hy=>(p1 y hy).2]; rfl
 ·refine TP.bind TP.of_ fun i hi=>?_
  dsimp only
  exact TP.ret (P:=xX) ⟨⟨kd 5 (by decide),hi,u0 8,u0 8,u0 1,By,BT,BE,u0 2,Nat.zero_le _,oI,Dq⟩,rfl⟩
 ·refine TP.bind TP.kj fun r hr=>?_
  dsimp only
  refine TP.bind (TP.next 3) fun o ho=>?_
  dsimp only
  show TP (fun t=>some (({zC with Kind:=1+5,Rule:=r,On:=decide (o>(0:Int))}:aC),t)) xX
  refine TP.ret (P:=xX) ?_
  exact ⟨⟨kd 6 (by decide),⟨u0 8,u0 8⟩,u0 8,u0 8,u0 1,By,BT,BE,u0 2,Nat.zero_le _,oI,hr.1⟩,by show ({zC with Kind:=6,Rule:=wX r,On:=_}:aC)=_; rw [hr.2]; rfl⟩
 ·refine TP.bind TP.of_ fun i hi=>?_
  dsimp only
  refine TP.bind (TP.next 4) fun p hp=>?_
  dsimp only
  refine TP.bind TP.kj fun r hr=>?_
  dsimp only
  refine TP.bind TP.writes fun w hw=>?_
  dsimp only
  refine TP.bind TP.Ai fun x hx=>?_
  dsimp only
  exact TP.ret (P:=xX) ⟨⟨kd 7 (by decide),hi,qO hp.1 (by omega),u0 8,u0 1,By,hw.1,hx.1,u0 2,Nat.zero_le _,oI,hr.1⟩,by show ({zC with Kind:=7,ID:=cId i,Epoch:=_,Rule:=wX r,Writes:=ra w,R:=uw x}:aC)=_; rw [hr.2,hw.2,hx.2]; rfl⟩
end Go.Proofs.YtgnkkopjkgdieaaGreat

end
section
set_option linter.unusedVariables false
set_option linter.unusedSimpArgs false
set_option maxRecDepth 100000
namespace Go.Proofs.YtgnkkopjkgdieaaGreat
open Go Go.V
theorem yn {x a b:Nat} (hx:isF x) (ha:isF a) (hb:isF b):lz x a b=some (decide (ax a≤ax x)&&decide (ax x≤ax b)):=by
 simp only [lz,pd ha,pd hx,pd hb,Option.bind_some]
 cases decide (ax a≤ax x) <;> rfl
theorem CC {x y:Nat} (hx:isF x) (hy:isF y):iN x y=some (ax x==ax y):=by simp only [iN,pd hx,pd hy,Option.bind_some]
theorem BN {x a b:Nat} (hx:isF x) (ha:isF a) (hb:isF b):jN x a b=some (decide (ax a≤ax x)&&decide (ax x≤ax b)):=by
 simp only [jN,oB hx ha,oB hb hx,Option.bind_some]
 by_cases h1:ax x<ax a
 ·have : ¬ ax a≤ax x:=by omega
  simp [h1,this]
 ·by_cases h2:ax b<ax x
  ·have : ¬ ax x≤ax b:=by omega
   have h3:ax a≤ax x:=by omega
   simp [h1,h2,this]
  ·have h3:ax x≤ax b:=by omega
   have h4:ax a≤ax x:=by omega
   simp [h1,h2,h3,h4]
def xv (h:al) (x:Nat):Bool:=h.Puts.any fun y=>ax x==ax y
def rp (h:al) (x:Nat):Bool:=(h.Gets.any fun y=>ax x==ax y)||h.Scans.any fun s=>decide (ax s.1≤ax x)&&decide (ax x≤ax s.2)
def mtB (a b:al):Bool:=(a.Puts.any fun x=>xv b x||rp b x)||b.Puts.any fun x=>rp a x
theorem Bj {h:al} (g:hJ h) {x:Nat} (hx:isF x):nL h x x=some (xv h x):=by
 obtain ⟨_,_,_,g4,g5,g6,l1,l2,l3,_⟩:=g
 obtain ⟨z,h1,h2⟩:=tY (body:=jw h x x) h.Puts (fun y=>ax x==ax y) (fun i hi=>by
  have hy:=g6 _ (List.getElem_mem hi)
  have e:(decide (ax x≤ax h.Puts[i])&&decide (ax h.Puts[i]≤ax x))=(ax x==ax h.Puts[i]):=by
   rw [Bool.eq_iff_iff]
   simp only [Bool.and_eq_true,decide_eq_true_eq,beq_iff_eq]
   omega
  simp only [jw,gW hi,cond_true,bl hi,Option.bind_some,yn hy hx hx,e,bJ (show i≤4294967295 by omega)]
  cases ax x==ax h.Puts[i] <;> rfl) (by simp [jw,bt])
 simp only [nL,h1,Option.bind_some,h2]; rfl
theorem yN {h:al} (g:hJ h) {x:Nat} (hx:isF x):nn h x=some (rp h x):=by
 obtain ⟨_,_,_,g4,g5,g6,l1,l2,l3,_⟩:=g
 obtain ⟨z,h1,h2⟩:=tY (body:=ki h x) h.Gets (fun y=>ax x==ax y) (fun i hi=>by
  have hy:=g4 _ (List.getElem_mem hi)
  simp only [ki,gW hi,cond_true,bl hi,Option.bind_some,CC hx hy,bJ (show i≤4294967295 by omega)]
  cases ax x==ax h.Gets[i] <;> rfl) (by simp [ki,bt])
 obtain ⟨z',h3,h4⟩:=tY (body:=kp h x) h.Scans (fun s=>decide (ax s.1≤ax x)&&decide (ax x≤ax s.2)) (fun i hi=>by
  have hy:=g5 _ (List.getElem_mem hi)
  simp only [kp,gW hi,cond_true,bl hi,Option.bind_some,yn hx hy.1 hy.2,bJ (show i≤4294967295 by omega)]
  cases (decide (ax h.Scans[i].1≤ax x)&&decide (ax x≤ax h.Scans[i].2)) <;> rfl) (by simp [kp,bt])
 simp only [nn,h1,h3,Option.bind_some,h2,h4,rp]
 cases h.Gets.any fun y=>ax x==ax y <;> rfl
theorem DD {a b:al} (ga:hJ a) (gb:hJ b):pA a b=some (mtB a b):=by
 have h1:=nO (body:=lm a b) a.Puts (fun x=>xv b x||rp b x) (Sum.inr true) (Sum.inl ()) (fun i hi=>by
  have hx:=ga.2.2.2.2.2.1 _ (List.getElem_mem hi)
  simp only [lm,gW hi,cond_true,bl hi,Option.bind_some,Bj gb hx,yN gb hx,bJ (show i≤4294967295 by have:=ga.2.2.2.2.2.2.2.2.1; omega)]
  cases xv b a.Puts[i] <;> cases rp b a.Puts[i] <;> rfl) (by simp [lm,bt])
 have h2:=nO (body:=lj b a) b.Puts (fun x=>rp a x) true false (fun i hi=>by
  have hx:=gb.2.2.2.2.2.1 _ (List.getElem_mem hi)
  simp only [lj,gW hi,cond_true,bl hi,Option.bind_some,yN ga hx,bJ (show i≤4294967295 by have:=gb.2.2.2.2.2.2.2.2.1; omega)]
  cases rp a b.Puts[i] <;> rfl) (by simp [lj,bt])
 simp only [pA,h1,mtB]
 cases a.Puts.any fun x=>xv b x||rp b x with
 | true=>rfl
 | false =>
  show mC b a ()=_
  simp only [mC,h2]
  cases b.Puts.any fun x=>rp a x <;> rfl
theorem Cm {l:List Nat} (g:∀ x∈l,isF x) (hl:l.length≤1000) {x:Nat} (hx:isF x):pp l x=some (l.any fun y=>ax x==ax y):=by
 have h1:=nO (body:=mj l x) l (fun y=>ax x==ax y) true false (fun i hi=>by
  have hy:=g _ (List.getElem_mem hi)
  have e:decide (ax l[i]=ax x)=(ax x==ax l[i]):=by
   by_cases e1:ax x=ax l[i]
   ·simp [e1]
   ·have : ¬ ax l[i]=ax x:=fun h=>e1 h.symm
    simp [e1,this]
  simp only [mj,gW hi,cond_true,bl hi,Option.bind_some,nC hy hx,e,bJ (show i≤4294967295 by omega)]
  cases ax x==ax l[i] <;> rfl) (by simp [mj,bt])
 rw [pp,h1]
 cases l.any fun y=>ax x==ax y <;> rfl
theorem xh {h:al} (g:hJ h) {x:Nat} (hx:isF x):nk h x=some (rp h x):=by
 have g':=g
 obtain ⟨_,_,_,g4,g5,g6,l1,l2,l3,_⟩:=g
 have h1:=nO (body:=kb h x) h.Scans (fun s=>decide (ax s.1≤ax x)&&decide (ax x≤ax s.2)) (Sum.inr true) (Sum.inl ()) (fun i hi=>by
  have hy:=g5 _ (List.getElem_mem hi)
  simp only [kb,gW hi,cond_true,bl hi,Option.bind_some,BN hx hy.1 hy.2,bJ (show i≤4294967295 by omega)]
  cases (decide (ax h.Scans[i].1≤ax x)&&decide (ax x≤ax h.Scans[i].2)) <;> rfl) (by simp [kb,bt])
 simp only [nk,h1,rp]
 cases h.Scans.any fun s=>decide (ax s.1≤ax x)&&decide (ax x≤ax s.2) with
 | true=>simp [iJ]
 | false =>
  show lM h x ()=_
  simp only [lM,Cm g4 (by omega) hx,Option.bind_some,Bool.or_false]
theorem Ci {a b:al} (ga:hJ a) (gb:hJ b):pO a b=some (mtB a b):=by
 have h1:=nO (body:=lh a b) a.Puts (fun x=>xv b x||rp b x) (Sum.inr true) (Sum.inl ()) (fun i hi=>by
  have hx:=ga.2.2.2.2.2.1 _ (List.getElem_mem hi)
  simp only [lh,gW hi,cond_true,bl hi,Option.bind_some,Cm gb.2.2.2.2.2.1 (by have:=gb.2.2.2.2.2.2.2.2.1; omega) hx,xh gb hx,bJ (show i≤4294967295 by have:=ga.2.2.2.2.2.2.2.2.1; omega)]
  show (bif xv b a.Puts[i] then _ else _)=_
  cases xv b a.Puts[i] <;> cases rp b a.Puts[i] <;> rfl) (by simp [lh,bt])
 have h2:=nO (body:=lp b a) b.Puts (fun x=>rp a x) true false (fun i hi=>by
  have hx:=gb.2.2.2.2.2.1 _ (List.getElem_mem hi)
  simp only [lp,gW hi,cond_true,bl hi,Option.bind_some,xh ga hx,bJ (show i≤4294967295 by have:=gb.2.2.2.2.2.2.2.2.1; omega)]
  cases rp a b.Puts[i] <;> rfl) (by simp [lp,bt])
 simp only [pO,h1,mtB]
 cases a.Puts.any fun x=>xv b x||rp b x with
 | true=>rfl
 | false =>
  show mH b a ()=_
  simp only [mH,h2]
  cases b.Puts.any fun x=>rp a x <;> rfl
theorem pi {p q:Prop} {b:Bool} {X:Option Bool} (hb:b=tr p) (h:p→X=some (tr q)):(bif b then X else some false)=some (tr (p∧q)):=by
 have := oy (p:=p) (q:=q) (b:=!b) (X:=X) (by rw [hb]) h
 rw [← this]; cases b <;> rfl
theorem uX {x y:Nat} (hx:isF x) (hy:isF y):iN x y=some (tr (cf x=cf y)):=by
 rw [CC hx hy]; exact congrArg some (tM (by rw [Es hx hy]; simp))
theorem Cs {a b:al} (ha:hJ a) (hb:hJ b):nY a b=some (tr (mG a=mG b)):=by
 obtain ⟨_,_,_,a4,a5,a6,a7,a8,a9,a11,a10⟩:=ha
 obtain ⟨_,_,_,b4,b5,b6,b7,b8,b9,_,b10⟩:=hb
 have e1:(bif ((a.Gets.length:Nat):Int) !=((b.Gets.length:Nat):Int) then some false else br (jT a b) (0:Int))=some (tr (a.Gets.map cf=b.Gets.map cf)):=by
  refine xL fun hl=>(qE (body:=jT a b) true false cf a.Gets b.Gets hl (by omega) (fun i hi=>?_) ?_).trans (congrArg some xy)
  ·have hi':i<b.Gets.length:=hl ▸ hi
   simp only [jT,gW hi,cond_true,bl hi,bl hi',Option.bind_some,uX (a4 _ (List.getElem_mem hi)) (b4 _ (List.getElem_mem hi')),bt,Option.map_some]
   exact Bc
  ·simp [jT,bt]
 have e2:(bif ((a.Scans.length:Nat):Int) !=((b.Scans.length:Nat):Int) then some false else br (jP a b) (0:Int))=some (tr (a.Scans.map oR=b.Scans.map oR)):=by
  refine xL fun hl=>(qE (body:=jP a b) true false oR a.Scans b.Scans hl (by omega) (fun i hi=>?_) ?_).trans (congrArg some xy)
  ·have hi':i<b.Scans.length:=hl ▸ hi
   have g1:=a5 _ (List.getElem_mem hi)
   have g2:=b5 _ (List.getElem_mem hi')
   have e:nu a.Scans[i] b.Scans[i]=some (tr (oR a.Scans[i]=oR b.Scans[i])):=by
    simp only [nu,uX g1.1 g2.1,uX g1.2 g2.2,Option.bind_some]
    rw [pi rfl fun _=>rfl]
    exact congrArg some (lN (by simp [oR]))
   simp only [jP,gW hi,cond_true,bl hi,bl hi',Option.bind_some,e,bt,Option.map_some]
   exact Bc
  ·simp [jP,bt]
 have e3:(bif ((a.Puts.length:Nat):Int) !=((b.Puts.length:Nat):Int) then some false else br (jU a b) (0:Int))=some (tr (a.Puts.map cf=b.Puts.map cf)):=by
  refine xL fun hl=>(qE (body:=jU a b) true false cf a.Puts b.Puts hl (by omega) (fun i hi=>?_) ?_).trans (congrArg some xy)
  ·have hi':i<b.Puts.length:=hl ▸ hi
   simp only [jU,gW hi,cond_true,bl hi,bl hi',Option.bind_some,uX (a6 _ (List.getElem_mem hi)) (b6 _ (List.getElem_mem hi')),bt,Option.map_some]
   exact Bc
  ·simp [jU,bt]
 have e4:eW a.Data b.Data=some (tr (a.Data=b.Data)):=by rw [DP _ _ (by omega)]; exact congrArg some (tM (by simp))
 simp only [nY,e1,e2,e3,e4,Option.bind_some]
 rw [pi (p:=a.ID.Session=b.ID.Session∧a.ID.Seq=b.ID.Seq) (q:=a.Epoch=b.Epoch∧a.Gets.map cf=b.Gets.map cf∧a.Scans.map oR=b.Scans.map oR∧a.Puts.map cf=b.Puts.map cf∧a.Data=b.Data) (tM (by simp)) fun _=>pi (EM _ _) fun _=>pi rfl fun _=>pi rfl fun _=>pi rfl fun _=>rfl]
 refine congrArg _ (lN ?_)
 simp only [mG,al.mk.injEq,bK.mk.injEq]
 constructor
 ·rintro ⟨h1,h2,h3,h4,h5,h6⟩
  exact ⟨(id_eq _ _).1 h1,h2,h3,h4,h5,h6⟩
 ·rintro ⟨h1,h2,h3,h4,h5,h6⟩
  exact ⟨(id_eq _ _).2 h1,h2,h3,h4,h5,h6⟩
theorem Ei {α:Type} (a:α):tr (a=a)=true:=yV rfl
end Go.Proofs.YtgnkkopjkgdieaaGreat

end
section
set_option linter.unusedVariables false
set_option linter.unusedSimpArgs false
set_option maxRecDepth 100000
namespace Go.Proofs.YtgnkkopjkgdieaaGreat
open Go Go.V
def idk (i:bK):Int:=i.Session*18446744073709551616+i.Seq
def kid (h:al):Int:=idk h.ID
theorem Ao {i:bK} (h:idG i):0≤i.Session∧i.Session<18446744073709551616∧0≤i.Seq∧i.Seq<18446744073709551616:=by
 obtain ⟨⟨a,b⟩,c,d⟩:=h
 rw [pw8] at b d
 exact ⟨a,by omega,c,by omega⟩
theorem hJ.id {h:al} (g:hJ h):idG h.ID:=⟨g.1,g.2.1⟩
theorem zD {a b:bK} (ha:idG a) (hb:idG b):idk a=idk b↔a=b:=by
 have h1:=Ao ha
 have h2:=Ao hb
 unfold idk
 constructor
 ·intro h
  cases a; cases b
  simp only [bK.mk.injEq] at h1 h2 h ⊢
  omega
 ·rintro rfl; rfl
theorem EC {a b:bK} (ha:idG a) (hb:idG b):idk a<idk b↔a.Session<b.Session∨(a.Session=b.Session∧a.Seq<b.Seq):=by
 have h1:=Ao ha
 have h2:=Ao hb
 unfold idk
 omega
theorem sw {a b:bK} (ha:idG a) (hb:idG b):((a.Session==b.Session)&&(a.Seq==b.Seq))=(idk a==idk b):=by
 rw [Bool.eq_iff_iff]
 simp only [Bool.and_eq_true,beq_iff_eq,zD ha hb]
 cases a; cases b; simp
def sg (a b:Int):Int:=if a<b then -1 else if a>b then 1 else 0
theorem xN (a b:Int):dx a b=some (sg a b):=by
 have h1:(a !=a)=false:=by simp
 have h2:(b !=b)=false:=by simp
 simp only [dx,iT,Option.bind_some,h1,h2,cond_false,sg]
 by_cases h:a<b
 ·simp [h]
 ·by_cases h':a>b
  ·simp [h,h']
  ·simp [h,h']
theorem Ct (a b:Int):nX [a,b]=some (if a=0 then b else a):=by
 have h:=xq (body:=lu [a,b]) [a,b] (fun x=>x !=0) (fun x=>x) 0 (fun i hi=>by
  simp only [lu,gW hi,cond_true,bl hi,Option.bind_some,bJ (show i≤4294967295 by simp at hi; omega)]
  cases [a,b][i] !=0 <;> rfl) (by simp [lu,bt])
 rw [nX,h]
 by_cases h1:a=0
 ·subst h1
  by_cases h2:b=0
  ·subst h2; rfl
  ·simp [h2]
 ·simp [h1]
def wy (a b:bK):Int:=if sg a.Session b.Session=0 then sg a.Seq b.Seq else sg a.Session b.Session
theorem vB (x:al) (i:bK):ld x i=some (wy x.ID i):=by
 simp only [ld,xN,Ct,Option.bind_some,wy]
theorem Cq {a b:Int}:sg a b<0↔a<b:=by unfold sg; split <;> (try split) <;> omega
theorem BA {a b:Int}:sg a b=0↔a=b:=by unfold sg; split <;> (try split) <;> omega
theorem AO {a b:bK} (ha:idG a) (hb:idG b):wy a b<0↔idk a<idk b:=by
 rw [EC ha hb]
 unfold wy
 split
 ·rename_i h; rw [BA] at h; rw [Cq]; omega
 ·rename_i h; rw [BA] at h; rw [Cq]; omega
theorem CP {a b:bK} (ha:idG a) (hb:idG b):wy a b=0↔idk a=idk b:=by
 rw [zD ha hb]
 unfold wy
 split
 ·rename_i h; rw [BA] at h; rw [BA]
  cases a; cases b
  simp only [bK.mk.injEq] at h ⊢
  omega
 ·rename_i h
  have h':=h
  rw [BA] at h'
  constructor
  ·intro e; exact absurd e h
  ·rintro rfl; exact absurd rfl h'
def rb (l:List al):Prop:=fJ kid l∧l.length≤1000∧∀ x∈l,hJ x
theorem find_eq {l:List al} (h:rb l) {i:bK} (hi:idG i):fG (some {l:=l}) i=some (((pl kid (idk i) l:Nat):Int),hit kid (idk i) l):=by
 obtain ⟨hr,hn,hg⟩:=h
 have hs:br (gh {l:=l} i) (((l.length:Nat):Int),(0:Int))=some ((lb (lo kid (idk i)) l:Nat):Int):=by
  refine pX (R:=Int) l (lo kid (idk i)) (by omega) (hr.ahd (idk i)) (fun a j k hk hij hke hj=>?_) (fun a j hij=>?_)
  ·have e1:decide ((a:Int)<(j:Int))=true:=by simpa using hij
   have e2:=tu (i:=a) (j:=j) (by omega)
   rw [← hke] at e2
   simp only [gh,e1,cond_true,e2,bl hk,Option.bind_some,vB]
   have e4:decide (wy l[k].ID i<0)=lo kid (idk i) l[k]:=by
    unfold lo
    rw [decide_eq_decide]
    exact AO (hg _ (List.getElem_mem hk)).id hi
   rw [e4,bJ (show k≤4294967295 by omega)]
   cases lo kid (idk i) l[k] <;> rfl
  ·have e1:decide ((a:Int)<(j:Int))=false:=by simpa using hij
   simp only [gh,e1,cond_false,bt,Option.map_some]
 simp only [fG,hs,Option.bind_some,jY]
 rw [show lb (lo kid (idk i)) l=pl kid (idk i) l from rfl]
 unfold hit
 by_cases hk:pl kid (idk i) l<l.length
 ·rw [gW hk,cond_true,bl hk,Option.bind_some]
  simp only [vB,Option.bind_some,List.getElem?_eq_getElem hk]
  congr 2
  rw [Bool.eq_iff_iff]
  simp only [beq_iff_eq]
  exact CP (hg _ (List.getElem_mem hk)).id hi
 ·have e1:decide (((pl kid (idk i) l:Nat):Int)<(l.length:Int))=false:=by simpa using hk
  rw [e1,cond_false,List.getElem?_eq_none (by omega)]
  rfl
theorem BV {l:List al} (h:rb l) {x:al} (hx:hJ x) (hn:l.length≤999):rb (kq kid l x):=by
 refine ⟨po h.1 x,by have:=rB h.1 x; omega,fun y hy=>?_⟩
 rcases (kW h.1 x y).1 hy with rfl | ⟨h1,_⟩
 ·exact hx
 ·exact h.2.2 y h1
theorem Db {l:List al} (h:rb l) (s:Int):rb (oG kid s l):=by
 refine ⟨wJ h.1 s,by have:=vp h.1 s; have:=h.2.1; omega,fun y hy=>?_⟩
 rw [← kw h.1] at hy
 exact h.2.2 y (List.mem_filter.1 hy).1
def bars (h x:al):Bool:=!(kid x==kid h)&&mtB x h
theorem Al (l:List Nat) (h:l.length≤1000):eu l=some l:=db (jH (by simp; omega))
theorem Ed (l:List (Nat×Nat)) (h:l.length≤1000):eH l=some l:=db (jH (by simp; omega))
theorem DY (l:List Int) (h:l.length≤1000):dM l=some l:=db (jH (by simp; omega))
theorem Dx {l:List al} (h:rb l) (hn:l.length≤999) {x:al} (hx:hJ x):gM (some {l:=l}) x=some (if l.any (bars x) then (8,some {l:=l}) else (0,some {l:=kq kid l x})):=by
 have h1:=nO (body:=gl {l:=l} x) l (bars x) (Sum.inr ((8:Int),some {l:=l})) (Sum.inl ()) (fun i hi=>by
  have hg:=h.2.2 _ (List.getElem_mem hi)
  simp only [gl,gW hi,cond_true,bl hi,Option.bind_some,sw hg.id hx.id,DD hg hx,bJ (show i≤4294967295 by omega),bars]
  show (bif !(kid l[i]==kid x) then _ else _)=_
  cases kid l[i]==kid x <;> cases mtB l[i] x <;> rfl) (by simp [gl,bt])
 simp only [gM,h1]
 cases hb:l.any (bars x) with
 | true=>rfl
 | false =>
  show iG x {l:=l} ()=_
  have hx':=hx
  obtain ⟨_,_,_,_,_,_,l1,l2,l3,l4,_⟩:=hx
  simp only [iG,Al x.Gets (by omega),Ed x.Scans (by omega),Al x.Puts (by omega),DY x.Data (by omega),Option.bind_some,find_eq h hx'.id]
  rw [show ({ID:=x.ID,Epoch:=x.Epoch,Gets:=x.Gets,Scans:=x.Scans,Puts:=x.Puts,Data:=x.Data}:al)=x from rfl,show idk x.ID=kid x from rfl]
  cases hh:hit kid (kid x) l with
  | true =>
   obtain ⟨hk,h3,h4⟩:=jI hh
   simp only [cond_true,bl hk,Option.bind_some,Int.toNat_natCast,va hh]; rfl
  | false =>
   simp only [cond_false,eL,db (rZ (x:=x) (kid x) (show l.length≤1073741823 by omega)),Option.bind_some,rN hh]; rfl
theorem get_eq {l:List al} (h:rb l) {i:bK} (hi:idG i):gy (some {l:=l}) i=some (match hZ kid (idk i) l with | some x=>(x,true) | none=>(ea,false)):=by
 simp only [gy,find_eq h hi,Option.bind_some]
 cases hh:hit kid (idk i) l with
 | false=>simp [hZ,hh]
 | true =>
  obtain ⟨hk,h3,h4⟩:=jI hh
  simp only [h4,Bool.not_true,cond_false,bl hk,Option.bind_some]
theorem drop_eq {l:List al} (h:rb l) {i:bK} (hi:idG i):iR (some {l:=l}) i=some (hit kid (idk i) l,some {l:=oG kid (idk i) l}):=by
 simp only [iR,find_eq h hi,Option.bind_some]
 cases hh:hit kid (idk i) l with
 | false =>
  have e:oG kid (idk i) l=l:=by unfold oG pr; rw [hh,cond_false,List.take_append_drop]
  rw [e]; rfl
 | true =>
  obtain ⟨hk,h3,h4⟩:=jI hh
  have hf:fits l ((pl kid (idk i) l:Nat):Int) ((pl kid (idk i) l+1:Nat):Int)=true:=by simp [fits]; omega
  have hn:=h.2.1
  rw [cond_true,bJ (show pl kid (idk i) l≤4294967295 by omega),eK,db hf,Option.bind_some,Ax hh]
theorem EG (l:List al):kP (some {l:=l})=some (l.length:Int):=rfl
theorem Cl {l:List al} (hn:l.length≤1000) (e:Int):eJ (some {l:=l}) e=some (l.any fun x=>decide (x.Epoch≤e)):=by
 obtain ⟨z,h1,h2⟩:=tY (body:=eR {l:=l} e) l (fun x=>decide (x.Epoch≤e)) (fun i hi=>by
  simp only [eR,gW hi,cond_true,bl hi,Option.bind_some,bJ (show i≤4294967295 by omega)]
  cases decide (l[i].Epoch≤e) <;> rfl) (by simp [eR,bt])
 simp only [eJ,h1,Option.bind_some,h2]
theorem yY {m:List al} (hn:m.length≤1000) (hg:∀ x∈m,hJ x) {i:bK} (hi:idG i):oi m i=some (m.filter fun x=>kid x !=idk i):=by
 have h:=lc (body:=lv m i) m (fun x=>kid x !=idk i) (fun x=>x) (fun out=>out) (fun a ha out ho=>by
  have g:=hg _ (List.getElem_mem ha)
  simp only [lv,gW ha,cond_true,bl ha,Option.bind_some,sw g.id hi,db (fa (x:=m[a]) (show out.length≤1073741823 by omega)),bJ (show a≤4294967295 by omega)]
  show (bif !(kid m[a]==idk i) then _ else _)=_
  simp only [bne]
  cases kid m[a]==idk i <;> rfl) (fun out _=>by simp [lv,bt])
 rw [oi,h,List.map_id']
theorem Cz {m:List al} (hn:m.length≤999) (hg:∀ x∈m,hJ x) {x:al} (hx:hJ x):nZ m x=some (if m.any (bars x) then (m,false) else ((m.filter fun y=>kid y !=kid x)++[x],true)):=by
 have h1:=nO (body:=lx m x) m (bars x) (Sum.inr (m,false)) (Sum.inl ()) (fun i hi=>by
  have g:=hg _ (List.getElem_mem hi)
  simp only [lx,gW hi,cond_true,bl hi,Option.bind_some,sw g.id hx.id,Ci g hx,bJ (show i≤4294967295 by omega),bars]
  show (bif !(kid m[i]==kid x) then _ else _)=_
  cases kid m[i]==kid x <;> cases mtB m[i] x <;> rfl) (by simp [lx,bt])
 simp only [nZ,h1]
 cases hb:m.any (bars x) with
 | true=>rfl
 | false =>
  show mK m x ()=_
  have hl:=List.length_filter_le (fun y:al=>kid y !=idk x.ID) m
  simp only [mK,yY (by omega) hg hx.id,Option.bind_some,db (fa (x:=x) (show (m.filter fun y=>kid y !=idk x.ID).length≤1073741823 by omega)),ow]
  rfl
theorem xH {m:List al} (hn:m.length≤1000) (hg:∀ x∈m,hJ x) {i:bK} (hi:idG i):kI m i=some (match m.find? (fun x=>kid x==idk i) with | some x=>(x,true) | none=>(ea,false)):=by
 have h:=xq (body:=lq m i) m (fun x=>kid x==idk i) (fun x=>(x,true)) (ea,false) (fun a ha=>by
  have g:=hg _ (List.getElem_mem ha)
  simp only [lq,gW ha,cond_true,bl ha,Option.bind_some,sw g.id hi,bJ (show a≤4294967295 by omega)]
  show (bif kid m[a]==idk i then _ else _)=_
  cases kid m[a]==idk i <;> rfl) (by simp [lq,bt])
 unfold kI
 rw [h]
 cases m.find? (fun x=>kid x==idk i) <;> rfl
theorem ug {l m:List al} (hr:fJ kid l) (hp:l.Perm m) (s:Int):m.find? (fun x=>kid x==s)=hZ kid s l:=by
 cases h:m.find? (fun x=>kid x==s) with
 | some x =>
  have h1:=List.find?_some h
  have h2:=List.mem_of_find?_eq_some h
  exact ((kl hr).2 ⟨hp.mem_iff.2 h2,eq_of_beq h1⟩).symm
 | none =>
  refine ((ul hr).2 fun x hx e=>?_).symm
  have := List.find?_eq_none.1 h x (hp.mem_iff.1 hx)
  simp [e] at this
theorem vw {α:Type} {l m:List α} (hp:l.Perm m) (q:α→Bool):l.any q=m.any q:=by
 rw [Bool.eq_iff_iff,List.any_eq_true,List.any_eq_true]
 exact ⟨fun ⟨x,h1,h2⟩=>⟨x,hp.mem_iff.1 h1,h2⟩,fun ⟨x,h1,h2⟩=>⟨x,hp.mem_iff.2 h1,h2⟩⟩
theorem DV:rb []:=⟨pD,Nat.zero_le _,fun x hx=>by cases hx⟩
theorem Dv {l m:List al} (h:rb l) (hp:l.Perm m) (x:al):(kq kid l x).Perm ((m.filter fun y=>kid y !=kid x)++[x]):=by
 refine (oo h.1 x).trans ?_
 exact ((hp.filter _).cons x).trans (List.perm_append_comm (l₁:=[x]))
end Go.Proofs.YtgnkkopjkgdieaaGreat

end
