/- A part of the proof. -/
import Derived.Test.YtgnkkopjkgdieaaGreatLaneBytesGw
import Derived.Test.YtgnkkopjkgdieaaGreatLaneBytesM
set_option linter.unusedVariables false
set_option linter.unusedSimpArgs false
set_option maxRecDepth 100000
namespace Go.Proofs.YtgnkkopjkgdieaaGreat
open Go Go.V
theorem AS {a:Nat} (ha:a<18446744073709551616):py a=some (vh a):=by
 simp only [py,zP,vh,Option.some.injEq,decide_eq_decide,Int.ofNat_eq_natCast]
 omega
theorem DR {a:Nat} (ha:a<18446744073709551616) (na:pX a=false):(vh a=true∧aO a=9223372036854775807+rI a∧rI a≤0)∨(vh a=false∧aO a=9223372036854775808+rI a∧0≤rI a):=by
 unfold aO rI vh ji
 rw [na]
 by_cases h:9223372036854775808≤a
 ·left; simp only [h,if_true,decide_true,Bool.false_eq_true,if_false,true_and]; omega
 ·right; simp only [h,if_false,decide_false,Bool.false_eq_true,true_and]; omega
theorem sP {a b:Nat} (ha:a<18446744073709551616) (hb:b<18446744073709551616):mm a b=some (decide (aO a<aO b)):=by
 unfold mm rr hQ bG
 rw [Bo ha,Bo hb,EY ha deA,EY hb deA,LM ha hb,AS ha,AS hb]
 have k0:rI 0=0:=by decide
 have n0:pX 0=false:=by decide
 rw [k0,n0]
 cases na:pX a with
 | true =>
  have : aO a=18446744073709551615:=by simp [aO,na]
  have h2:¬ (aO a<aO b):=by
   rw [this]; unfold aO; split
   ·omega
   ·split <;> omega
  simp [h2]
 | false =>
  cases nb:pX b with
  | true =>
   have h1:aO b=18446744073709551615:=by simp [aO,nb]
   have h2:aO a<aO b:=by
    have : ji a≤9218868437227405312:=by simpa [pX] using na
    rw [h1]; unfold aO; rw [na]; unfold ji at this
    simp only [Bool.false_eq_true,if_false]
    split <;> omega
   simp [h2]
  | false =>
   have A:=DR ha na
   have B:=DR hb nb
   simp only [Bool.not_false,Bool.true_and,cond_false,Option.bind_some]
   by_cases z1:rI a=0 <;> by_cases z2:rI b=0 <;> rcases A with ⟨s1,r1,k1⟩ | ⟨s1,r1,k1⟩ <;> rcases B with ⟨s2,r2,k2⟩ | ⟨s2,r2,k2⟩ <;> rw [r1,r2] <;>
    simp only [z1,z2,s1,s2,decide_true,decide_false,cond_true,cond_false,Option.bind_some,Option.map_some,Bool.not_true,Bool.not_false,Option.some.injEq,Bool.false_eq,Bool.true_eq,decide_eq_false_iff_not,decide_eq_true_eq,decide_eq_decide] <;> omega
theorem IQ {a:Nat} (ha:a<18446744073709551616):tP a=some (pX a):=by simp [tP,Bo ha]
theorem mN {a:Nat} (ha:a<18446744073709551616):dS a=some (aO a):=by
 unfold dS aO
 rw [IQ ha,Option.bind_some]
 cases hn:pX a with
 | true=>rfl
 | false =>
  simp only [cond_false,Int.ofNat_eq_natCast,HS,Bool.false_eq_true,if_false]
  by_cases h:9223372036854775808≤a
  ·have e:a / 9223372036854775808=1:=by omega
   rw [e,if_pos h]
   have := FV ha
   simp [this]
  ·have e:a / 9223372036854775808=0:=by omega
   rw [e,if_neg h]
   have := Mv (x:=a) omA
   simp [this]
theorem rA {a b:Nat} (ha:a<18446744073709551616) (hb:b<18446744073709551616):fT a b=some (decide (aO a=aO b)):=by
 unfold fT
 rw [sP ha hb,sP hb ha]
 by_cases h1:aO a<aO b
 ·have : ¬ aO a=aO b:=by omega
  simp [h1,this]
 ·by_cases h2:aO b<aO a
  ·have : ¬ aO a=aO b:=by omega
   simp [h1,h2,this]
  ·have : aO a=aO b:=by omega
   simp [h1,h2,this]
theorem back_eq {v:Nat} (hv:v<18446744073709551616):eP (v:Int)=some (if 9223372036854775808≤v then v - 9223372036854775808 else 18446744073709551615 - v):=by
 unfold eP
 rw [HS,Fu hv,FV hv]
 by_cases h:9223372036854775808≤v
 ·have e:v / 9223372036854775808=1:=by omega
  rw [e,if_pos h]
  have e2:v%9223372036854775808=v - 9223372036854775808:=by omega
  rw [show (((1:Nat):Int)==1)=true from rfl,cond_true,Int.toNat_natCast,e2]
 ·have e:v / 9223372036854775808=0:=by omega
  rw [e,if_neg h]
  have e2:((18446744073709551615:Int) - (v:Int)).toNat=18446744073709551615 - v:=by omega
  rw [show (((0:Nat):Int)==1)=false from rfl,cond_false,e2]
theorem tF {x:Nat} (hx:x<18446744073709551616):0≤aO x∧aO x<18446744073709551616:=by
 unfold aO
 split
 ·omega
 ·split <;> omega
theorem Ck {x:Nat} (hx:x<18446744073709551616) (hn:pX x=false):eP (aO x)=some x:=by
 obtain ⟨h0,h1⟩:=tF hx
 obtain ⟨u,hu⟩:=Int.eq_ofNat_of_zero_le h0
 rw [hu,back_eq omA]
 congr 1
 unfold aO at hu
 rw [hn] at hu
 simp only [Bool.false_eq_true,if_false] at hu
 split at hu <;> split <;> omega
def uh (t:aB):Prop:=0≤t.I∧t.L.length≤1000000∧∀ x∈t.L,0≤x∧x<256
theorem FH {t:aB} {n:Int} (h:uh t) (hn:0<n) (hn2:n≤1000000000):∃ v t',aY t n=some (v,t')∧0≤v∧v<n∧uh t'∧t'.L=t.L:=by
 obtain ⟨L,I⟩:=t
 obtain ⟨h0,h1,h2⟩:=h
 simp only at h0 h1 h2
 obtain ⟨i,rfl⟩:=Int.eq_ofNat_of_zero_le h0
 unfold aY
 simp only
 cases hc:decide ((i:Int)≥(L.length:Int)) with
 | true=>exact ⟨0,_,rfl,Int.le_refl _,hn,⟨h0,h1,h2⟩,rfl⟩
 | false =>
  have hlt:(i:Int)<(L.length:Int):=by simpa using hc
  have e1:IntKind.i64.wrap ((i:Int)+1)=i+1:=by rw [wrap_i64] <;> omega
  have e2:IntKind.i64.wrap ((i:Int)+1 - 1)=i:=by rw [wrap_i64] <;> omega
  have hi2:i<L.length:=by omega
  have hx:=h2 L[i] (List.getElem_mem hi2)
  have e3:IntKind.i64.wrap L[i]=L[i]:=by rw [wrap_i64] <;> omega
  have e4:(!(n==(0:Int)))=true:=by simp; omega
  have e5:Int.tmod L[i] n=L[i]%n:=Int.tmod_eq_emod_of_nonneg hx.1
  simp only [cond_false,e1,e2,bD hi2,Option.bind_some,e3,dl e4,e5]
  refine ⟨_,_,rfl,Int.emod_nonneg _ omA,Int.emod_lt_of_pos _ hn,⟨?_,h1,h2⟩,rfl⟩
  show (0:Int)≤(i:Int)+1
  omega
theorem EM {v:Int} (h0:0≤v) (h1:v<8):∃ f,ux v=some f∧f<18446744073709551616∧pX f=false:=by
 have : v=0∨v=1∨v=2∨v=3∨v=4∨v=5∨v=6∨v=7:=by omega
 rcases this with rfl | rfl | rfl | rfl | rfl | rfl | rfl | rfl <;> exact ⟨_,rfl,by decide,by decide⟩
theorem EW {t:aB} (h:uh t):∃ f t',dL t=some (f,t')∧(f<18446744073709551616∧pX f=false)∧uh t':=by
 obtain ⟨v,t',h1,h2,h3,h4,h5⟩:=FH h (n:=8) deA deA
 have e:IntKind.u8.wrap v=v:=by rw [wrap_u8] <;> omega
 obtain ⟨f,g1,g2⟩:=EM h2 h3
 exact ⟨f,t',by simp [dL,h1,e,g1],g2,h4⟩
theorem Kk (p:List Int) (v n:Nat) (hn:n≤8) (hp:p.length≤1000000000):ax {p:=p} (v:Int) (n:Int)=some {p:=p++leB n v}:=by
 unfold ax
 have h:=dW (body:=jf (n:Int) (v:Int)) (fun i=>(({p:=p++leB i v}:ao),(i:Int))) n {p:=p++leB n v} ?_ ?_
 ·have e:p++leB 0 v=p:=by simp [leB]
  simpa [e] using h
 ·intro i hi
  have e1:decide ((i:Int)<(n:Int))=true:=by simpa using hi
  have e2:IntKind.i64.wrap ((i:Int)+1)=((i+1:Nat):Int):=by rw [wrap_i64] <;> omega
  have e3:IntKind.i64.wrap ((8:Int)*(i:Int))=((8*i:Nat):Int):=by rw [wrap_i64] <;> omega
  have e4:decide ((0:Int)≤((8*i:Nat):Int))=true:=decide_eq_true (Int.natCast_nonneg _)
  have hr:room (p++leB i v) [((v / 256 ^ i%256:Nat):Int)]=true:=room_le (by simp [dA]; omega)
  simp only [jf,e1,cond_true,e2,e3,dl e4,JA v i omA,jz,dl hr,Option.bind_some,Ds,List.append_assoc]
 ·have e1:decide ((n:Int)<(n:Int))=false:=by simp
  simp only [jf,e1,cond_false,bG,Option.map_some]
theorem JF (p:List Int) {v n:Int} {m:Nat} (hv:0≤v) (hn:n=m) (hm:m≤8) (hp:p.length≤1000000000):ax {p:=p} v n=some {p:=p++leB m v.toNat}:=by
 obtain ⟨u,rfl⟩:=Int.eq_ofNat_of_zero_le hv
 subst hn
 exact Kk p u m hm hp
def Hj (r:ag):Prop:=r.p.length≤1000000000∧∀ x∈r.p,zI x
theorem Hl (p:List Int) (b:Bool) (n:Nat) (hn:n≤8) (hp:n≤p.length) (hu:∀ x∈p,zI x):bA (gQ (n:Int) {p:=p,bad:=b}) ((0:Int),(0:Int))=some ((vW (p.take n):Nat):Int):=by
 have h:=dW (body:=gQ (n:Int) {p:=p,bad:=b}) (fun i=>((i:Int),((vW (p.take i):Nat):Int))) n ((vW (p.take n):Nat):Int) ?_ ?_
 ·simpa [vW] using h
 ·intro i hi
  have em:(if (8:Int)<(n:Int) then (8:Int) else (n:Int))=(n:Int):=by rw [if_neg omA]
  have e1:decide ((i:Int)<(n:Int))=true:=by simpa using hi
  have e2:IntKind.i64.wrap ((i:Int)+1)=((i+1:Nat):Int):=by rw [wrap_i64] <;> omega
  have e3:IntKind.i64.wrap ((8:Int)*(i:Int))=((8*i:Nat):Int):=by rw [wrap_i64] <;> omega
  have e4:decide ((0:Int)≤((8*i:Nat):Int))=true:=decide_eq_true (Int.natCast_nonneg _)
  have hi2:i<p.length:=by omega
  have hx:=hu p[i] (List.getElem_mem hi2)
  have e5:IntKind.u64.wrap p[i]=((p[i].toNat:Nat):Int):=by
   obtain ⟨h1,h2⟩:=hx
   rw [jV] <;> omega
  have e6:=KP (xs:=p.take i) fun x hx=>hu x (List.mem_of_mem_take hx)
  rw [List.length_take,Nat.min_eq_left omA] at e6
  have e7:=Kw (x:=p[i].toNat) e6 (by obtain ⟨h1,h2⟩:=hx; omega) omA
  have e8:vW (p.take (i+1))=vW (p.take i)+256 ^ i*p[i].toNat:=by
   rw [List.take_succ_eq_append_getElem hi2,Cs,List.length_take,Nat.min_eq_left omA]
  simp only [gQ,em,e1,cond_true,bD hi2,Option.bind_some,e2,e3,dl e4,e5,e7,e8]
 ·have em:(if (8:Int)<(n:Int) then (8:Int) else (n:Int))=(n:Int):=by rw [if_neg omA]
  have e1:decide ((n:Int)<(n:Int))=false:=by simp
  simp only [gQ,em,e1,cond_false,bG,Option.map_some]
theorem KH (p:List Int) (n:Nat) (hn:n≤8) (hp:n≤p.length) (hu:∀ x∈p,zI x):aE {p:=p,bad:=false} (n:Int)=some (((vW (p.take n):Nat):Int),{p:=p.drop n,bad:=false}):=by
 have e1:decide ((n:Int)<(0:Int))=false:=by simp
 have e2:decide (((p.length:Nat):Int)<(n:Int))=false:=by simp; omega
 have hf:fits p (n:Int) (((p).length:Nat):Int)=true:=by simp [fits]; omega
 have hs:lL p (n:Int) (((p).length:Nat):Int)=p.drop n:=by simp [lL]
 simp only [aE,e1,e2,cond_false,Hl p false n hn hp hu,Option.bind_some,mJ,dl hf,hs]
theorem DU (n v:Nat) (q:List Int) (hn:n≤8) (hv:v<256 ^ n) (hq:∀ x∈q,zI x):aE {p:=leB n v++q,bad:=false} (n:Int)=some ((v:Int),{p:=q,bad:=false}):=by
 rw [KH _ n hn (by simp [dA]) (fun x hx=>(List.mem_append.1 hx).elim (Ia x) (hq x))]
 have e:(leB n v).length=n:=dA n v
 have h1:(leB n v++q).take n=leB n v:=by rw [List.take_append_of_le_length omA,List.take_of_length_le omA]
 have h2:(leB n v++q).drop n=q:=by rw [List.drop_append_of_le_length omA,List.drop_eq_nil_of_le omA,List.nil_append]
 rw [h1,h2,El hv]
theorem Cb (v:Nat) (q:List Int) {a:Int} (hv:(v:Int)≤a) (h1:a≤1000000000) (hq:∀ x∈q,zI x):cd {p:=leB 4 v++q,bad:=false} a=some ((v:Int),{p:=q,bad:=false}):=by
 have h4:(256:Nat) ^ 4=4294967296:=by decide
 have h:=DU 4 v q deA omA hq
 have n4:((4:Nat):Int)=4:=rfl
 rw [n4] at h
 have e0:decide (a<(0:Int))=false:=by simp; omega
 have e1:IntKind.u64.wrap a=a:=by rw [jV] <;> omega
 have e2:IntKind.i64.wrap (v:Int)=v:=by rw [wrap_i64] <;> omega
 have e3:decide ((v:Int)>a)=false:=by simp; omega
 simp only [cd,h,Option.bind_some,e0,cond_false,e1,e3,e2]
theorem FF (a b:List Int) (hl:a.length≤1000000000):dU a b=some (decide (a=b)):=by
 unfold dU
 cases h:(((a).length:Int) !=((b).length:Int)) with
 | true =>
  have : ¬ a=b:=by rintro rfl; simp at h
  simp [this]
 | false =>
  have hlen:a.length=b.length:=by simp at h; omega
  rw [cond_false]
  obtain ⟨r,e1,e2⟩:∃ r,bA (gM a b) (0:Int)=some r∧r=decide (a=b):=by
   refine qW (fun i:Int=>0≤i∧i≤a.length∧a.take i.toNat=b.take i.toNat) (fun i=>((a.length:Int) - i).toNat) (fun r=>r=decide (a=b)) ?_ ⟨Int.le_refl 0,by omega,by simp⟩
   rintro i ⟨h0,h1,h2⟩
   obtain ⟨n,rfl⟩:=Int.eq_ofNat_of_zero_le h0
   unfold gM
   cases hi:decide ((n:Int)<(a.length:Int)) with
   | false =>
    have hn:n=a.length:=by simp at hi; omega
    right
    refine ⟨true,rfl,?_⟩
    subst hn
    rw [Int.toNat_natCast,List.take_length,hlen,List.take_length] at h2
    simp [h2]
   | true =>
    have hn:n<a.length:=by simpa using hi
    have hn2:n<b.length:=by omega
    have hw:IntKind.i64.wrap ((n:Int)+1)=((n+1:Nat):Int):=by rw [wrap_i64] <;> omega
    simp only [cond_true,bD hn,bD hn2,Option.bind_some,hw]
    by_cases he:a[n]=b[n]
    ·left
     refine ⟨((n+1:Nat):Int),by simp [he],⟨by omega,by omega,?_⟩,by omega⟩
     rw [Int.toNat_natCast] at h2
     rw [Int.toNat_natCast,List.take_succ_eq_append_getElem hn,List.take_succ_eq_append_getElem hn2,h2,he]
    ·right
     have hne:¬ a=b:=by
      intro e
      subst e
      exact he rfl
     have hb:(a[n] !=b[n])=true:=by simpa using he
     exact ⟨false,by rw [hb]; rfl,by simp [hne]⟩
  rw [e1,e2]
def WR (f:ao→Option ao) (b:List Int):Prop:=∀ p:List Int,p.length+b.length≤1000000000→f {p:=p}=some {p:=p++b}
theorem WR.ret:WR (fun w=>some w) []:=fun p _=>by simp
theorem WR.bind {f g:ao→Option ao} {b c:List Int} (hf:WR f b) (hg:WR g c):WR (fun w=>(f w).bind g) (b++c):=fun p hp=>by
 simp only [List.length_append] at hp
 show (f {p:=p}).bind g=_
 rw [hf p omA,Option.bind_some,hg (p++b) lnA,List.append_assoc]
theorem WR.last {f:ao→Option ao} {b:List Int} (hf:WR f b):WR (fun w=>(f w).bind fun t=>some t) b:=by
 have h:=hf.bind WR.ret
 rwa [List.append_nil] at h
theorem WR.congr {f:ao→Option ao} {b c:List Int} (hf:WR f b) (e:b=c):WR f c:=e ▸ hf
theorem WR.of {f g:ao→Option ao} {b:List Int} (h:∀ w,f w=g w) (hg:WR g b):WR f b:=fun p hp=>by rw [h]; exact hg p hp
theorem WR.num {v n:Int} (m:Nat) (hm:m≤8) (hn:n=m) (hv:0≤v):WR (fun w=>ax w v n) (leB m v.toNat):=fun p hp=>JF p hv hn hm omA
theorem WR.n8 {v:Int} (hv:0≤v):WR (fun w=>ax w v (8:Int)) (leB 8 v.toNat):=WR.num 8 deA rfl hv
theorem WR.n4 {v:Int} (hv:0≤v):WR (fun w=>ax w v (4:Int)) (leB 4 v.toNat):=WR.num 4 deA rfl hv
theorem WR.n2 {v:Int} (hv:0≤v):WR (fun w=>ax w v (2:Int)) (leB 2 v.toNat):=WR.num 2 deA rfl hv
theorem WR.n1 {v:Int} (hv:0≤v):WR (fun w=>ax w v (1:Int)) (leB 1 v.toNat):=WR.num 1 deA rfl hv
def un (v:Int):Nat:=(IntKind.u64.wrap v).toNat
theorem Ch (v:Int):0≤IntKind.u64.wrap v:=by rw [kO]; omega
theorem Ln {v:Int} (h0:0≤v) (h:v<18446744073709551616):un v=v.toNat:=by unfold un; rw [jV h0 h]
theorem Mw {n:Nat} (h:n≤1000000000):un (n:Int)=n:=by rw [Ln] <;> omega
theorem WR.u1 (v:Int):WR (fun w=>ax w (IntKind.u64.wrap v) (1:Int)) (leB 1 (un v)):=WR.n1 (Ch v)
theorem WR.u4 (v:Int):WR (fun w=>ax w (IntKind.u64.wrap v) (4:Int)) (leB 4 (un v)):=WR.n4 (Ch v)
theorem WR.cnt (n:Nat) (h:n≤1000000000):WR (fun w=>ax w (IntKind.u64.wrap (n:Int)) (4:Int)) (leB 4 n):=(WR.u4 (n:Int)).congr (by rw [Mw h])
def flB (b:Bool):List Int:=leB 1 (if b then 1 else 0)
def byB (l:List Int):List Int:=leB 4 l.length++l
theorem WR.flag (b:Bool):WR (fun w=>iW w b) (flB b):=by
 cases b with
 | true=>exact (WR.n1 (v:=1) deA).last
 | false=>exact (WR.n1 (v:=0) deA).last
theorem WR.lay (l:List Int):WR (fun w=>jz w l) l:=fun p hp=>by
 simp only [jz,dl (room_le (xs:=p) (ys:=l) omA)]
theorem WR.bytes (l:List Int) (h:l.length≤1000000000):WR (fun w=>en w l) (byB l):=(WR.cnt l.length h).bind (WR.lay l).last
theorem WR.HN {R:Type} {body:ao×Int→Option ((ao×Int) ⊕ R)} (out:ao→R) (bs:List (List Int)) (hl:bs.length≤1000000000)
  (hstep : ∀ i (h:i<bs.length) (p:List Int),p.length+bs[i].length≤1000000000→body ({p:=p},(i:Int))=some (Sum.inl (({p:=p++bs[i]}:ao),IntKind.i64.wrap ((i:Int)+(1:Int)))))
  (hend : ∀ w,body (w,(bs.length:Int))=some (Sum.inr (out w))) (p:List Int) (hp:p.length+bs.flatten.length≤1000000000):bA body ({p:=p},(0:Int))=some (out {p:=p++bs.flatten}):=by
 have h:=dW (body:=body) (fun i=>(({p:=p++(bs.take i).flatten}:ao),(i:Int))) bs.length (out {p:=p++bs.flatten}) ?_ ?_
 ·simpa using h
 ·intro i hi
  have e:IntKind.i64.wrap ((i:Int)+(1:Int))=((i+1:Nat):Int):=by rw [wrap_i64] <;> omega
  have hb:(bs.take (i+1)).flatten=(bs.take i).flatten++bs[i]:=by rw [List.take_succ_eq_append_getElem hi,List.flatten_append,List.flatten_singleton]
  have hlen:(bs.take (i+1)).flatten.length≤bs.flatten.length:=by
   have := List.take_append_drop (i+1) bs
   have h3:bs.flatten=(bs.take (i+1)).flatten++(bs.drop (i+1)).flatten:=by rw [← List.flatten_append,this]
   rw [h3,List.length_append]; omega
  rw [hstep i hi _ (by rw [hb] at hlen; simp only [List.length_append] at hlen ⊢; omega),e,hb,List.append_assoc]
 ·rw [hend,List.take_length]
theorem WR.loop {R:Type} {body:ao×Int→Option ((ao×Int) ⊕ R)} (out:ao→R) (bs:List (List Int)) (hl:bs.length≤1000000000)
  (hstep : ∀ i (h:i<bs.length),∃ F:ao→Option ao,WR F bs[i]∧∀ w,body (w,(i:Int))=(F w).bind fun t=>some (Sum.inl (t,IntKind.i64.wrap ((i:Int)+(1:Int)))))
  (hend : ∀ w,body (w,(bs.length:Int))=some (Sum.inr (out w))) (p:List Int) (hp:p.length+bs.flatten.length≤1000000000):bA body ({p:=p},(0:Int))=some (out {p:=p++bs.flatten}):=by
 refine WR.HN out bs hl (fun i hi p hp=>?_) hend p hp
 obtain ⟨F,h1,h2⟩:=hstep i hi
 rw [h2,h1 p hp,Option.bind_some]
theorem WR.AR {body:ao×Int→Option ((ao×Int) ⊕ ao)} (bs:List (List Int)) (hl:bs.length≤1000000000)
  (hstep : ∀ i (h:i<bs.length),∃ F:ao→Option ao,WR F bs[i]∧∀ w,body (w,(i:Int))=(F w).bind fun t=>some (Sum.inl (t,IntKind.i64.wrap ((i:Int)+(1:Int)))))
  (hend : ∀ w,body (w,(bs.length:Int))=some (Sum.inr w)):WR (fun w=>bA body (w,(0:Int))) bs.flatten:=fun p hp=>WR.loop id bs hl hstep hend p hp
def isF (x:Nat):Prop:=x<18446744073709551616
def rkB (x:Nat):List Int:=leB 8 (aO x).toNat
def scB (x:Nat×Nat):List Int:=rkB x.1++rkB x.2
theorem JV {x:Nat} (h:isF x):0≤aO x:=by
 unfold isF at h
 unfold aO
 split
 ·omega
 ·split <;> omega
theorem WR.eW {x:Nat} (h:isF x):WR (fun w=>(dS x).bind fun t=>ax w t (8:Int)) (rkB x):=by
 have e:=mN h
 simp only [e,Option.bind_some]
 exact WR.n8 (JV h)
def EG (h:aw):Prop:=0≤h.ID.ab∧0≤h.ID.Seq∧0≤h.ae∧(∀ x∈h.dO,isF x)∧(∀ x∈h.aX,isF x.1∧isF x.2)∧(∀ x∈h.dD,isF x)∧h.dO.length≤1000000∧h.aX.length≤1000000∧h.dD.length≤1000000∧h.Data.length≤1000000
def idB (x:cy):List Int:=leB 8 x.ab.toNat++leB 8 x.Seq.toNat
def pW (h:aw):List Int :=
 leB 8 h.ID.ab.toNat++(leB 8 h.ID.Seq.toNat++(leB 8 h.ae.toNat++(leB 4 h.dO.length++((h.dO.map rkB).flatten++(leB 4 h.aX.length++((h.aX.map scB).flatten++(leB 4 h.dD.length++((h.dD.map rkB).flatten++byB h.Data))))))))
theorem Ee (l:List Nat) (body:ao×Int→Option ((ao×Int) ⊕ ao))
  (hb : ∀ w i,body (w,i)=bif decide (i<(l.length:Int)) then (dC l i).bind fun x=>(dS x).bind fun t=>(ax w t (8:Int)).bind fun t=>some (Sum.inl (t,IntKind.i64.wrap (i+(1:Int)))) else bG (some w))
  (hx : ∀ x∈l,isF x) (hl:l.length≤1000000):WR (fun w=>bA body (w,(0:Int))) (l.map rkB).flatten:=by
 refine WR.AR _ lnA (fun i hi=>?_) (fun w=>?_)
 ·have hi':i<l.length:=by simpa using hi
  have hF:=hx _ (List.getElem_mem hi')
  refine ⟨_,by rw [List.getElem_map]; exact WR.eW hF,fun w=>?_⟩
  have e1:decide ((i:Int)<(l.length:Int))=true:=by simpa using hi'
  simp only [hb,e1,cond_true,bD hi',Option.bind_some,mN hF]
 ·simp [hb,bG]
theorem IC {h:aw} (ok:EG h):WR (fun w=>uV w h) (pW h):=by
 obtain ⟨h1,h2,h3,h4,h5,h6,l1,l2,l3,l4⟩:=ok
 refine (WR.n8 h1).bind ((WR.n8 h2).bind ((WR.n8 h3).bind ((WR.cnt h.dO.length omA).bind ((Ee h.dO _ (fun w i=>rfl) h4 l1).bind ((WR.cnt h.aX.length omA).bind (WR.bind ?_ ((WR.cnt h.dD.length omA).bind ((Ee h.dD _ (fun w i=>rfl) h6 l3).bind (WR.bytes h.Data omA).last))))))))
 refine WR.AR _ lnA (fun i hi=>?_) (fun w=>?_)
 ·have hi':i<h.aX.length:=by simpa using hi
  obtain ⟨f1,f2⟩:=h5 _ (List.getElem_mem hi')
  refine ⟨_,by rw [List.getElem_map]; exact (WR.eW f1).bind (WR.eW f2),fun w=>?_⟩
  have e1:decide ((i:Int)<(h.aX.length:Int))=true:=by simpa using hi'
  simp only [rh,e1,cond_true,bD hi',Option.bind_some,mN f1,mN f2,Option.bind_assoc]
 ·simp [rh,bG]
def EV (x:cC):List Int:=flB x.Has++byB x.Val
def AN (x:bP):List Int:=rkB x.At++byB x.Val
def wB (l:List bP):List Int:=leB 4 l.length++(l.map AN).flatten
def uE (x:bB):List Int:=leB 1 (un x.E)++(leB 8 x.ae.toNat++(leB 8 x.Index.toNat++(leB 4 x.dT.length++((x.dT.map EV).flatten++(leB 4 x.aX.length++(x.aX.map wB).flatten)))))
def LF (x:bP):Prop:=isF x.At∧x.Val.length≤1000000
def Dl (x:bB):Prop:=0≤x.ae∧0≤x.Index∧(∀ g∈x.dT,g.Val.length≤1000000)∧(∀ l∈x.aX,l.length≤1000000∧∀ p∈l,LF p)∧x.dT.length≤1000000∧x.aX.length≤1000000
theorem Cj {x:bB} (ok:Dl x):WR (fun w=>nq w x) (uE x):=by
 obtain ⟨h1,h2,h3,h4,h5,h6⟩:=ok
 refine (WR.u1 x.E).bind ((WR.n8 h1).bind ((WR.n8 h2).bind ((WR.cnt x.dT.length omA).bind (WR.bind ?_ ((WR.cnt x.aX.length omA).bind ?_)))))
 ·refine WR.AR _ lnA (fun i hi=>?_) (fun w=>?_)
  ·have hi':i<x.dT.length:=by simpa using hi
   have hv:=h3 _ (List.getElem_mem hi')
   refine ⟨_,by rw [List.getElem_map]; exact (WR.flag _).bind (WR.bytes _ omA),fun w=>?_⟩
   have e1:decide ((i:Int)<(x.dT.length:Int))=true:=by simpa using hi'
   simp only [kB,e1,cond_true,bD hi',Option.bind_some,Option.bind_assoc]
  ·simp [kB,bG]
 ·refine WR.HN id _ lnA (fun i hi p hp=>?_) (fun w=>?_)
  ·have hi':i<x.aX.length:=by simpa using hi
   obtain ⟨g1,g2⟩:=h4 _ (List.getElem_mem hi')
   have e1:decide ((i:Int)<(x.aX.length:Int))=true:=by simpa using hi'
   have inner:∀ (p:List Int),p.length+((x.aX[i].map AN)).flatten.length≤1000000000→bA (jc x.aX[i] (i:Int)) (({p:=p}:ao),(0:Int))=some (Sum.inl (({p:=p++(x.aX[i].map AN).flatten}:ao),IntKind.i64.wrap ((i:Int)+(1:Int)))):=by
    intro p hp
    refine WR.loop (fun w=>Sum.inl (w,IntKind.i64.wrap ((i:Int)+(1:Int)))) _ lnA (fun k hk=>?_) (fun w=>?_) p hp
    ·have hk':k<x.aX[i].length:=by simpa using hk
     obtain ⟨f1,f2⟩:=g2 _ (List.getElem_mem hk')
     refine ⟨_,by rw [List.getElem_map]; exact (WR.eW f1).bind (WR.bytes _ omA),fun w=>?_⟩
     have e1:decide ((k:Int)<(x.aX[i].length:Int))=true:=by simpa using hk'
     simp only [jc,e1,cond_true,bD hk',Option.bind_some,mN f1,Option.bind_assoc]
    ·simp [jc,bG]
   rw [List.getElem_map] at hp ⊢
   simp only [wB,List.length_append] at hp
   have hn:ax {p:=p} (IntKind.u64.wrap (x.aX[i].length:Int)) (4:Int)=some {p:=p++leB 4 x.aX[i].length}:=WR.cnt x.aX[i].length omA p omA
   simp only [kG,e1,cond_true,bD hi',Option.bind_some]
   show (ax _ _ _).bind _=_
   rw [hn,Option.bind_some,inner _ lnA,wB,List.append_assoc]
  ·simp [kG,bG]
def Au (x:bK):List Int:=rkB x.At++(flB x.Del++byB x.Val)
def yO (l:List bK):List Int:=leB 4 l.length++(l.map Au).flatten
def KS (x:bK):Prop:=isF x.At∧x.Val.length≤1000000
def yX (l:List bK):Prop:=l.length≤1000000∧∀ x∈l,KS x
theorem EP {l:List bK} (ok:yX l):WR (fun w=>oM w l) (yO l):=by
 obtain ⟨h1,h2⟩:=ok
 refine (WR.cnt l.length omA).bind ?_
 refine WR.AR _ lnA (fun i hi=>?_) (fun w=>?_)
 ·have hi':i<l.length:=by simpa using hi
  obtain ⟨f1,f2⟩:=h2 _ (List.getElem_mem hi')
  refine ⟨_,by rw [List.getElem_map]; exact (WR.eW f1).bind ((WR.flag _).bind (WR.bytes _ omA)),fun w=>?_⟩
  have e1:decide ((i:Int)<(l.length:Int))=true:=by simpa using hi'
  simp only [ma,e1,cond_true,bD hi',Option.bind_some,mN f1,Option.bind_assoc]
 ·simp [ma,bG]
def Je (x:dV):Prop:=0≤x.ID∧isF x.Lo∧isF x.Hi∧0≤x.Authority
def xU (x:dN):List Int:=leB 1 (un x.oD)++yO x.cw
def Nb (x:cy):Prop:=0≤x.ab∧0≤x.Seq
def MS (c:aG):Prop:=Nb c.ID∧0≤c.ae∧0≤c.Index∧EG c.br∧yX c.cw∧Dl c.R∧0≤c.bY∧(c.dM.length≤1000000∧∀ x∈c.dM,yX x.cw)∧Je c.ap
def U8s (l:List Int):Prop:=∀ y∈l,zI y
theorem U8s.app {a b:List Int} (h:U8s a) (k:U8s b):U8s (a++b):=fun y hy=>(List.mem_append.1 hy).elim (h y) (k y)
theorem U8s.le {n v:Nat}:U8s (leB n v):=Ia
theorem U8s.nil:U8s []:=fun y hy=>by cases hy
theorem U8s.flat {β:Type} {e:β→List Int} {l:List β} (h:∀ x∈l,U8s (e x)):U8s (l.map e).flatten:=by
 intro y hy
 simp only [List.mem_flatten,List.mem_map] at hy
 obtain ⟨_,⟨x,hx,rfl⟩,hy⟩:=hy
 exact h x hx y hy
def RD {α:Type} (f:ag→Option (α×ag)) (b:List Int) (x:α):Prop:=U8s b∧∀ q,U8s q→b.length+q.length≤1000000000→f {p:=b++q,bad:=false}=some (x,{p:=q,bad:=false})
def TT {α:Type} (f:ag→Option (α×ag)) (P:α→Prop):Prop:=∀ r,Hj r→∃ x r',f r=some (x,r')∧P x∧Hj r'
theorem RD.ret {α:Type} (x:α):RD (fun r=>some (x,r)) [] x:=⟨U8s.nil,fun q hq _=>rfl⟩
theorem RD.bind {α β:Type} {f:ag→Option (α×ag)} {g:α×ag→Option (β×ag)} {b c:List Int} {x:α} {y:β} (hf:RD f b x) (hg:RD (fun r=>g (x,r)) c y):RD (fun r=>(f r).bind g) (b++c) y :=
 ⟨hf.1.app hg.1,fun q hq hl=>by
  simp only [List.length_append] at hl
  show (f {p:=b++c++q,bad:=false}).bind g=_
  rw [List.append_assoc,hf.2 (c++q) (hg.1.app hq) lnA,Option.bind_some]
  exact hg.2 q hq omA⟩
theorem RD.map {α β:Type} {f:ag→Option (α×ag)} {g:α×ag→Option (β×ag)} {b:List Int} {x:α} {y:β} (hf:RD f b x) (hg:∀ r,g (x,r)=some (y,r)):RD (fun r=>(f r).bind g) b y :=
 ⟨hf.1, fun q hq hl=>by show (f {p:=b++q,bad:=false}).bind g=_; rw [hf.2 q hq hl,Option.bind_some,hg]⟩
theorem RD.of {α:Type} {f g:ag→Option (α×ag)} {b:List Int} {x:α} (h:∀ r,f r=g r) (hg:RD g b x):RD f b x:=⟨hg.1,fun q hq hl=>by rw [h]; exact hg.2 q hq hl⟩
theorem RD.congr {α:Type} {f:ag→Option (α×ag)} {b c:List Int} {x y:α} (h:RD f b x) (e:b=c) (e2:x=y):RD f c y:=e ▸ e2 ▸ h
theorem TT.ret {α:Type} {P:α→Prop} {x:α} (h:P x):TT (fun r=>some (x,r)) P:=fun r hr=>⟨x,r,rfl,h,hr⟩
theorem TT.bind {α β:Type} {f:ag→Option (α×ag)} {g:α×ag→Option (β×ag)} {P:α→Prop} {Q:β→Prop} (hf:TT f P) (hg:∀ x,P x→TT (fun r=>g (x,r)) Q):TT (fun r=>(f r).bind g) Q:=fun r hr=>by
 obtain ⟨x,r',h1,h2,h3⟩:=hf r hr
 obtain ⟨y,r2,k1,k2,k3⟩:=hg x h2 r' h3
 exact ⟨y,r2,by show (f r).bind g=_; rw [h1,Option.bind_some]; exact k1,k2,k3⟩
theorem TT.of {α:Type} {f g:ag→Option (α×ag)} {P:α→Prop} (h:∀ r,f r=g r) (hg:TT g P):TT f P:=fun r hr=>by rw [h]; exact hg r hr
theorem TT.imp {α:Type} {f:ag→Option (α×ag)} {P Q:α→Prop} (hf:TT f P) (h:∀ x,P x→Q x):TT f Q:=fun r hr=>by
 obtain ⟨x,r',h1,h2,h3⟩:=hf r hr
 exact ⟨x,r',h1,h x h2,h3⟩
theorem pw8:(256:Nat) ^ 8=18446744073709551616:=by decide
theorem pw4:(256:Nat) ^ 4=4294967296:=by decide
theorem pw2:(256:Nat) ^ 2=65536:=by decide
theorem pw1:(256:Nat) ^ 1=256:=by decide
def isU (m:Nat) (v:Int):Prop:=0≤v∧v<((256 ^ m:Nat):Int)
theorem RD.num {v n:Int} (m:Nat) (hm:m≤8) (hn:n=m) (h:isU m v):RD (fun r=>aE r n) (leB m v.toNat) v:=⟨U8s.le,fun q hq _=>by
 subst hn
 obtain ⟨h0,h1⟩:=h
 have := DU m v.toNat q hm omA hq
 rw [Int.toNat_of_nonneg h0] at this
 exact this⟩
theorem RD.n8 {v:Int} (h:isU 8 v):RD (fun r=>aE r (8:Int)) (leB 8 v.toNat) v:=RD.num 8 deA rfl h
theorem RD.n4 {v:Int} (h:isU 4 v):RD (fun r=>aE r (4:Int)) (leB 4 v.toNat) v:=RD.num 4 deA rfl h
theorem RD.n2 {v:Int} (h:isU 2 v):RD (fun r=>aE r (2:Int)) (leB 2 v.toNat) v:=RD.num 2 deA rfl h
theorem RD.n1 {v:Int} (h:isU 1 v):RD (fun r=>aE r (1:Int)) (leB 1 v.toNat) v:=RD.num 1 deA rfl h
theorem Le {v:Int} (m:Nat) (hm:m≤8) (h:isU m v):un v=v.toNat:=by
 obtain ⟨h0,h1⟩:=h
 have h8:(256:Nat) ^ m≤256 ^ 8:=Nat.pow_le_pow_right deA hm
 rw [pw8] at h8
 exact Ln h0 omA
theorem RD.u1 {v:Int} (h:isU 1 v):RD (fun r=>aE r (1:Int)) (leB 1 (un v)) v:=by rw [Le 1 deA h]; exact RD.n1 h
theorem RD.u4 {v:Int} (h:isU 4 v):RD (fun r=>aE r (4:Int)) (leB 4 (un v)) v:=by rw [Le 4 deA h]; exact RD.n4 h
theorem RD.cnt {a:Int} (n:Nat) (h:(n:Int)≤a) (ha:a≤1000000000):RD (fun r=>cd r a) (leB 4 n) (n:Int):=⟨U8s.le,fun q hq _=>Cb n q h omA hq⟩
theorem RD.flag (b:Bool):RD (fun r=>fg r) (flB b) b:=⟨U8s.le,fun q hq hl=>by
 cases b with
 | true =>
  have h:=(RD.n1 (v:=1) ⟨by decide,by decide⟩).2 q hq hl
  have h':aE {p:=flB true++q,bad:=false} (1:Int)=some (1,{p:=q,bad:=false}):=h
  simp only [fg,h',Option.bind_some]
  rfl
 | false =>
  have h:=(RD.n1 (v:=0) ⟨by decide,by decide⟩).2 q hq hl
  have h':aE {p:=flB false++q,bad:=false} (1:Int)=some (0,{p:=q,bad:=false}):=h
  simp only [fg,h',Option.bind_some]
  rfl⟩
theorem RD.bytes {a:Int} (l:List Int) (h:(l.length:Int)≤a) (ha:a≤100000000) (hu:U8s l):RD (fun r=>du r a) (byB l) l:=⟨U8s.le.app hu,fun q hq hl=>by
 simp only [byB,List.length_append,dA] at hl
 have h1:=(RD.n4 (v:=(l.length:Int)) ⟨by omega,by rw [pw4]; omega⟩).2 (l++q) (hu.app hq) (by simp only [List.length_append,dA]; omega)
 rw [Int.toNat_natCast] at h1
 have h1':aE {p:=byB l++q,bad:=false} (4:Int)=some ((l.length:Int),{p:=l++q,bad:=false}):=by rw [byB,List.append_assoc]; exact h1
 have e0:decide (a<(0:Int))=false:=by simp; omega
 have e1:IntKind.u64.wrap a=a:=by rw [jV] <;> omega
 have e2:decide ((l.length:Int)>a)=false:=by simp; omega
 have e3:IntKind.u64.wrap (((l++q).length:Nat):Int)=(((l++q).length:Nat):Int):=by simp only [List.length_append]; rw [jV] <;> omega
 have e4:decide ((l.length:Int)>(((l++q).length:Nat):Int))=false:=by simp; omega
 have e5:fits (l++q) (0:Int) (l.length:Int)=true:=by simp [fits]; omega
 have e6:fits (l++q) (l.length:Int) (((l++q).length:Nat):Int)=true:=by simp [fits]; omega
 have e7:lL (l++q) (0:Int) (l.length:Int)=l:=by simp [lL]
 have e8:lL (l++q) (l.length:Int) (((l++q).length:Nat):Int)=q:=by unfold lL; rw [Int.toNat_natCast,Int.toNat_natCast,List.take_length,List.drop_left]
 simp only [du,h1',Option.bind_some,cond_false,e0,e1,e2,e3,e4,dl e5,dl e6,e7,e8,dl (room_le (xs:=([]:List Int)) (ys:=l) lnA)]⟩
def cf (x:Nat):Nat:=if 9223372036854775808≤(aO x).toNat then (aO x).toNat - 9223372036854775808 else 18446744073709551615 - (aO x).toNat
theorem Ly (x:Nat) (h:isF x):isF (cf x):=by
 obtain ⟨h0,h1⟩:=tF h
 unfold isF cf
 split <;> omega
theorem xj {x:Nat} (h:isF x):eP (aO x)=some (cf x):=by
 obtain ⟨h0,h1⟩:=tF h
 have := back_eq (v:=(aO x).toNat) omA
 rw [Int.toNat_of_nonneg h0] at this
 rw [this]; rfl
theorem Gm {x:Nat} (h:isF x) (hn:pX x=false):cf x=x:=by
 have h1:=Ck h hn
 rw [xj h] at h1
 exact Option.some.inj h1
theorem AQ {x:Nat} (h:isF x):aO (cf x)=aO x:=by
 cases hn:pX x with
 | false=>rw [Gm h hn]
 | true =>
  have e:aO x=18446744073709551615:=by simp [aO,hn]
  have e2:cf x=9223372036854775807:=by unfold cf; rw [e]; decide
  rw [e2,e]; decide
theorem Lb {x y:Nat} (hx:isF x) (hy:isF y):cf x=cf y↔aO x=aO y:=by
 constructor
 ·intro h
  rw [← AQ hx,← AQ hy,h]
 ·intro h
  unfold cf
  rw [h]
noncomputable def rdF (r:ag):Option (Nat×ag):=(aE r (8:Int)).bind fun t=>(eP t.1).bind fun f=>some (f,t.2)
theorem RD.f {x:Nat} (h:isF x):RD rdF (rkB x) (cf x):=by
 obtain ⟨h0,h1⟩:=tF h
 exact RD.map (RD.n8 (v:=aO x) ⟨h0,by rw [pw8]; omega⟩) fun r=>by simp only [xj h,Option.bind_some]
section
variable {α β S R:Type} {body:S→Option (S ⊕ R)} (st:ag→List α→Int→S) (out:ag→List α→R) {F:ag→Option (α×ag)}
theorem RD.loop (l:List β) (e:β→List Int) (c:β→α) (hl:l.length≤1000000000) (hF:∀ x∈l,RD F (e x) (c x))
  (hb : ∀ r acc i,i<(l.length:Int)→body (st r acc i)=(F r).bind fun t=>gd (room acc [t.1]) (some (Sum.inl (st t.2 (acc++[t.1]) (IntKind.i64.wrap (i+(1:Int)))))))
  (hend : ∀ r acc,body (st r acc (l.length:Int))=some (Sum.inr (out r acc))) (q:List Int) (hq:U8s q) (hlen:(l.map e).flatten.length+q.length≤1000000000) :
  bA body (st {p:=(l.map e).flatten++q,bad:=false} [] (0:Int))=some (out {p:=q,bad:=false} (l.map c)):=by
 have h:=dW (body:=body) (fun i=>st {p:=((l.drop i).map e).flatten++q,bad:=false} ((l.take i).map c) (i:Int)) l.length (out {p:=q,bad:=false} (l.map c)) ?_ ?_
 ·simpa using h
 ·intro i hi
  have e1:IntKind.i64.wrap ((i:Int)+(1:Int))=((i+1:Nat):Int):=by rw [wrap_i64] <;> omega
  have hx:=hF _ (List.getElem_mem hi)
  have hu:U8s (((l.drop (i+1)).map e).flatten++q):=(U8s.flat fun x hx=>(hF x (List.mem_of_mem_drop hx)).1).app hq
  have hd:l.drop i=l[i]::l.drop (i+1):=List.drop_eq_getElem_cons hi
  have hlen2:((l.drop i).map e).flatten.length≤(l.map e).flatten.length:=by
   have h3:(l.map e).flatten=((l.take i).map e).flatten++((l.drop i).map e).flatten:=by rw [← List.flatten_append,← List.map_append,List.take_append_drop]
   rw [h3,List.length_append]; omega
  rw [hd,List.map_cons,List.flatten_cons,List.length_append] at hlen2
  have hr:=hx.2 _ hu lnA
  rw [hb _ _ _ omA,hd,List.map_cons,List.flatten_cons,List.append_assoc,hr,Option.bind_some,dl (room_le (by simp only [List.length_map,List.length_take,List.length_cons,List.length_nil]; omega)),e1,List.take_succ_eq_append_getElem hi,List.map_append]
  rfl
 ·rw [hend,List.take_length,List.drop_length]; rfl
theorem TT.loop {P:α→Prop} (hF:TT F P) (n:Int) (hn:n≤1000000000)
  (hb : ∀ r acc i,i<n→body (st r acc i)=(F r).bind fun t=>gd (room acc [t.1]) (some (Sum.inl (st t.2 (acc++[t.1]) (IntKind.i64.wrap (i+(1:Int)))))))
  (hend : ∀ r acc i,¬ i<n→body (st r acc i)=some (Sum.inr (out r acc))) (r:ag) (hr:Hj r) (h0:0≤n) :
  ∃ r' acc,bA body (st r [] (0:Int))=some (out r' acc)∧Hj r'∧(∀ x∈acc,P x)∧(acc.length:Int)≤n:=by
 have key:∀ (k:Nat) (r:ag) (acc:List α) (i:Int),Hj r→(acc.length:Int)=i→i≤n→(∀ x∈acc,P x)→(n - i).toNat≤k→∃ r' acc',bA body (st r acc i)=some (out r' acc')∧Hj r'∧(∀ x∈acc',P x)∧(acc'.length:Int)≤n:=by
  intro k
  induction k with
  | zero =>
   intro r acc i hr ha hi hP hk
   have hni:¬ i<n:=by omega
   exact ⟨r,acc,by rw [fJ,hend r acc i hni]; rfl,hr,hP,by omega⟩
  | succ k ih =>
   intro r acc i hr ha hi hP hk
   by_cases hlt:i<n
   ·obtain ⟨x,r',h1,h2,h3⟩:=hF r hr
    have e1:IntKind.i64.wrap (i+(1:Int))=i+1:=by rw [wrap_i64] <;> omega
    obtain ⟨r2,acc2,g1,g2,g3,g4⟩:=ih r' (acc++[x]) (i+1) h3 (by simp only [List.length_append,List.length_cons,List.length_nil]; omega) omA (fun y hy=>by
     rcases List.mem_append.1 hy with hy | hy
     ·exact hP y hy
     ·cases List.mem_singleton.1 hy; exact h2) omA
    refine ⟨r2,acc2,?_,g2,g3,g4⟩
    rw [fJ,hb r acc i hlt,h1,Option.bind_some,dl (room_le (by simp only [List.length_cons,List.length_nil]; omega)),e1]
    exact g1
   ·exact ⟨r,acc,by rw [fJ,hend r acc i hlt]; rfl,hr,hP,by omega⟩
 exact key (n - 0).toNat r [] 0 hr rfl h0 (fun x hx=>by cases hx) (Nat.le_refl _)
end
theorem bnd {α β:Type} {x:Option α} {f g:α→Option β} (h:∀ a,f a=g a):x.bind f=x.bind g:=by rw [funext h]
noncomputable def HT (r:ag):Option (List Nat×ag):=(cd r (32:Int)).bind fun t=>(bA (kQ t) ([],t.2,(0:Int))).bind fun s=>some (s.2,s.1)
noncomputable def Gg (r:ag):Option (List (Nat×Nat)×ag):=(cd r (32:Int)).bind fun t=>(bA (kR t) ([],t.2,(0:Int))).bind fun s=>some (s.2,s.1)
noncomputable def IU (r:ag):Option (List Nat×ag):=(cd r (32:Int)).bind fun t=>(bA (kT t) ([],t.2,(0:Int))).bind fun s=>some (s.2,s.1)
noncomputable def Fl (r:ag):Option ((Nat×Nat)×ag):=(rdF r).bind fun a=>(rdF a.2).bind fun b=>some ((a.1,b.1),b.2)
def rR (x:Nat×Nat):Nat×Nat:=(cf x.1,cf x.2)
theorem RD.span {x:Nat×Nat} (h:isF x.1∧isF x.2):RD Fl (scB x) (rR x):=by
 refine RD.bind (RD.f h.1) ?_
 dsimp only
 exact RD.map (RD.f h.2) fun r=>rfl
theorem RD.Az {α β S R γ:Type} {a:Int} {F:ag→Option (α×ag)} {body:Int×ag→S→Option (S ⊕ R)} (st:ag→List α→Int→S) (out:ag→List α→R) (fin:R→Option (γ×ag)) {y:γ}
  (l : List β) (e:β→List Int) (c:β→α) (hl:(l.length:Int)≤a) (ha:a≤1000000000) (hF:∀ x∈l,RD F (e x) (c x))
  (hb : ∀ t r acc i,i<t.1→body t (st r acc i)=(F r).bind fun u=>gd (room acc [u.1]) (some (Sum.inl (st u.2 (acc++[u.1]) (IntKind.i64.wrap (i+(1:Int)))))))
  (hend : ∀ t r acc i,¬ i<t.1→body t (st r acc i)=some (Sum.inr (out r acc))) (hfin:∀ r,fin (out r (l.map c))=some (y,r)) :
  RD (fun r=>(cd r a).bind fun t=>(bA (body t) (st t.2 [] (0:Int))).bind fin) (leB 4 l.length++(l.map e).flatten) y:=by
 have key:RD (fun r=>(fun t:Int×ag=>(bA (body t) (st t.2 [] (0:Int))).bind fin) ((l.length:Int),r)) (l.map e).flatten y:=?_
 ·exact RD.bind (RD.cnt l.length hl ha) key
 refine ⟨U8s.flat fun x hx=>(hF x hx).1,fun q hq hlen=>?_⟩
 have := RD.loop (body:=body ((l.length:Int),{p:=(l.map e).flatten++q,bad:=false})) st out l e c omA hF (fun r acc i hi=>hb _ r acc i hi) (fun r acc=>hend _ r acc _ siA) q hq hlen
 show (bA (body ((l.length:Int),{p:=(l.map e).flatten++q,bad:=false})) (st {p:=(l.map e).flatten++q,bad:=false} [] (0:Int))).bind _=_
 rw [this]; exact hfin _
theorem vH {α:Type} (x:Option α):x.bind some=x:=by cases x <;> rfl
theorem RD.Lu {α β S γ:Type} {a:Int} {F:ag→Option (α×ag)} {body:Int×ag→S→Option (S ⊕ (γ×ag))} (st:ag→List α→Int→S) (out:ag→List α→γ×ag) {y:γ}
  (l : List β) (e:β→List Int) (c:β→α) (hl:(l.length:Int)≤a) (ha:a≤1000000000) (hF:∀ x∈l,RD F (e x) (c x))
  (hb : ∀ t r acc i,i<t.1→body t (st r acc i)=(F r).bind fun u=>gd (room acc [u.1]) (some (Sum.inl (st u.2 (acc++[u.1]) (IntKind.i64.wrap (i+(1:Int)))))))
  (hend : ∀ t r acc i,¬ i<t.1→body t (st r acc i)=some (Sum.inr (out r acc))) (hfin:∀ r,out r (l.map c)=(y,r)) :
  RD (fun r=>(cd r a).bind fun t=>bA (body t) (st t.2 [] (0:Int))) (leB 4 l.length++(l.map e).flatten) y :=
 RD.of (fun r=>bnd fun t=>(vH _).symm) (RD.Az st out some l e c hl ha hF hb hend fun r=>by rw [hfin])
theorem Hu (t:Int×ag) (r:ag) (acc:List Nat) (i:Int) (hi:i<t.1):kQ t (acc,r,i)=(rdF r).bind fun u=>gd (room acc [u.1]) (some (Sum.inl (acc++[u.1],u.2,IntKind.i64.wrap (i+(1:Int))))):=by
 have e:decide (i<t.1)=true:=by simpa using hi
 simp only [kQ,e,cond_true,rdF,Option.bind_assoc,Option.bind_some]
theorem GN (t:Int×ag) (r:ag) (acc:List Nat) (i:Int) (hi:i<t.1):kT t (acc,r,i)=(rdF r).bind fun u=>gd (room acc [u.1]) (some (Sum.inl (acc++[u.1],u.2,IntKind.i64.wrap (i+(1:Int))))):=by
 have e:decide (i<t.1)=true:=by simpa using hi
 simp only [kT,e,cond_true,rdF,Option.bind_assoc,Option.bind_some]
theorem EZ (t:Int×ag) (r:ag) (acc:List (Nat×Nat)) (i:Int) (hi:i<t.1):kR t (acc,r,i)=(Fl r).bind fun u=>gd (room acc [u.1]) (some (Sum.inl (acc++[u.1],u.2,IntKind.i64.wrap (i+(1:Int))))):=by
 have e:decide (i<t.1)=true:=by simpa using hi
 simp only [kR,e,cond_true,Fl,rdF,Option.bind_assoc,Option.bind_some]
theorem IJ (t:Int×ag) (r:ag) (acc:List Nat) (i:Int) (hi:¬ i<t.1):kQ t (acc,r,i)=some (Sum.inr (r,acc)):=by simp [kQ,hi,bG]
theorem Ib (t:Int×ag) (r:ag) (acc:List Nat) (i:Int) (hi:¬ i<t.1):kT t (acc,r,i)=some (Sum.inr (r,acc)):=by simp [kT,hi,bG]
theorem GQ (t:Int×ag) (r:ag) (acc:List (Nat×Nat)) (i:Int) (hi:¬ i<t.1):kR t (acc,r,i)=some (Sum.inr (r,acc)):=by simp [kR,hi,bG]
theorem Iz (r:ag):ph r=(aE r (8:Int)).bind fun a=>(aE a.2 (8:Int)).bind fun b=>(aE b.2 (8:Int)).bind fun e=>(HT e.2).bind fun g=>(Gg g.2).bind fun s=>(IU s.2).bind fun p=>(du p.2 (257:Int)).bind fun d=>some (({ID:={ab:=a.1,Seq:=b.1},ae:=e.1,dO:=g.1,aX:=s.1,dD:=p.1,Data:=d.1}:aw),d.2):=by
 unfold ph
 refine bnd fun t1=>bnd fun t2=>bnd fun t3=>?_
 simp only [HT,Option.bind_assoc,Option.bind_some]
 refine bnd fun t4=>bnd ?_
 rintro ⟨r5,g⟩
 simp only [sw,Gg,Option.bind_assoc,Option.bind_some]
 refine bnd fun t6=>bnd ?_
 rintro ⟨r7,s⟩
 simp only [sA,IU,Option.bind_assoc,Option.bind_some]
 refine bnd fun t8=>bnd ?_
 rintro ⟨r9,p⟩
 rfl
def iM (h:aw):Prop:=isU 8 h.ID.ab∧isU 8 h.ID.Seq∧isU 8 h.ae∧(∀ x∈h.dO,isF x)∧(∀ x∈h.aX,isF x.1∧isF x.2)∧(∀ x∈h.dD,isF x)∧h.dO.length≤32∧h.aX.length≤32∧h.dD.length≤32∧h.Data.length≤257∧U8s h.Data
theorem iM.ok {h:aw} (g:iM h):EG h:=by
 obtain ⟨h1,h2,h3,h4,h5,h6,l1,l2,l3,l4,h7⟩:=g
 exact ⟨h1.1,h2.1,h3.1,h4,h5,h6,by omega,by omega,by omega,by omega⟩
def nf (h:aw):aw:={h with ID:={ab:=h.ID.ab,Seq:=h.ID.Seq},dO:=h.dO.map cf,aX:=h.aX.map rR,dD:=h.dD.map cf}
theorem RD.hold {h:aw} (g:iM h):RD ph (pW h) (nf h):=by
 obtain ⟨h1,h2,h3,h4,h5,h6,l1,l2,l3,l4,h7⟩:=g
 refine RD.of Iz (RD.congr (b:=leB 8 h.ID.ab.toNat++(leB 8 h.ID.Seq.toNat++(leB 8 h.ae.toNat++((leB 4 h.dO.length++(h.dO.map rkB).flatten)++((leB 4 h.aX.length++(h.aX.map scB).flatten)++((leB 4 h.dD.length++(h.dD.map rkB).flatten)++byB h.Data)))))) ?_ (by simp only [pW,List.append_assoc]) rfl)
 refine RD.bind (RD.n8 h1) ?_
 dsimp only
 refine RD.bind (RD.n8 h2) ?_
 dsimp only
 refine RD.bind (RD.n8 h3) ?_
 dsimp only
 refine RD.bind (RD.Az (fun r acc i=>(acc,r,i)) (fun r acc=>(r,acc)) (fun s=>some (s.2,s.1)) h.dO rkB cf omA deA (fun x hx=>RD.f (h4 x hx)) Hu IJ fun r=>rfl) ?_
 dsimp only
 refine RD.bind (RD.Az (fun r acc i=>(acc,r,i)) (fun r acc=>(r,acc)) (fun s=>some (s.2,s.1)) h.aX scB rR omA deA (fun x hx=>RD.span (h5 x hx)) EZ GQ fun r=>rfl) ?_
 dsimp only
 refine RD.bind (RD.Az (fun r acc i=>(acc,r,i)) (fun r acc=>(r,acc)) (fun s=>some (s.2,s.1)) h.dD rkB cf omA deA (fun x hx=>RD.f (h6 x hx)) GN Ib fun r=>rfl) ?_
 dsimp only
 exact RD.map (RD.bytes h.Data omA deA h7) fun r=>rfl
noncomputable def IK (r:ag):Option (cC×ag):=(fg r).bind fun a=>(du a.2 (256:Int)).bind fun b=>some (({Has:=a.1,Val:=b.1}:cC),b.2)
noncomputable def rdPair (r:ag):Option (bP×ag):=(rdF r).bind fun a=>(du a.2 (256:Int)).bind fun b=>some (({At:=a.1,Val:=b.1}:bP),b.2)
def Jb (x:cC):Prop:=x.Val.length≤256∧U8s x.Val
def GF (x:bP):Prop:=isF x.At∧x.Val.length≤256∧U8s x.Val
def CY (l:List bP):Prop:=l.length≤64∧∀ p∈l,GF p
def td (x:bB):Prop:=isU 1 x.E∧isU 8 x.ae∧isU 8 x.Index∧(∀ g∈x.dT,Jb g)∧(∀ l∈x.aX,CY l)∧x.dT.length≤32∧x.aX.length≤32
theorem td.ok {x:bB} (g:td x):Dl x:=by
 obtain ⟨h1,h2,h3,h4,h5,h6,h7⟩:=g
 exact ⟨h2.1,h3.1,fun g hg=>by have:=(h4 g hg).1; omega,fun l hl=>⟨by have:=(h5 l hl).1; omega,fun p hp=>⟨((h5 l hl).2 p hp).1,by have:=((h5 l hl).2 p hp).2.1; omega⟩⟩,by omega,by omega⟩
def HH (x:cC):cC:={Has:=x.Has,Val:=x.Val}
def Cq (x:bP):bP:={At:=cf x.At,Val:=x.Val}
def yi (l:List bP):List bP:=l.map Cq
def tc (x:bB):bB:={x with dT:=x.dT.map HH,aX:=x.aX.map yi}
theorem RD.got {x:cC} (h:Jb x):RD IK (EV x) (HH x):=by
 refine RD.bind (RD.flag x.Has) ?_
 dsimp only
 exact RD.map (RD.bytes x.Val (by have:=h.1; omega) deA h.2) fun r=>rfl
theorem RD.pair {x:bP} (h:GF x):RD rdPair (AN x) (Cq x):=by
 refine RD.bind (RD.f h.1) ?_
 dsimp only
 exact RD.map (RD.bytes x.Val (by have:=h.2.1; omega) deA h.2.2) fun r=>rfl
noncomputable def Fk (r:ag):Option (List cC×ag):=(cd r (32:Int)).bind fun t=>(bA (fC t) ([],t.2,(0:Int))).bind fun s=>some (s.2,s.1)
noncomputable def CE (r:ag):Option (List bP×ag):=(cd r (64:Int)).bind fun t=>(bA (fA t) (t.2,(0:Int),[])).bind fun s=>some (s.2,s.1)
theorem Hs (t:Int×ag) (r:ag) (acc:List cC) (i:Int) (hi:i<t.1):fC t (acc,r,i)=(IK r).bind fun u=>gd (room acc [u.1]) (some (Sum.inl (acc++[u.1],u.2,IntKind.i64.wrap (i+(1:Int))))):=by
 have e:decide (i<t.1)=true:=by simpa using hi
 simp only [fC,e,cond_true,IK,Option.bind_assoc,Option.bind_some]
theorem EX (t:Int×ag) (r:ag) (acc:List bP) (i:Int) (hi:i<t.1):fA t (r,i,acc)=(rdPair r).bind fun u=>gd (room acc [u.1]) (some (Sum.inl (u.2,IntKind.i64.wrap (i+(1:Int)),acc++[u.1]))):=by
 have e:decide (i<t.1)=true:=by simpa using hi
 simp only [fA,e,cond_true,rdPair,rdF,Option.bind_assoc,Option.bind_some]
theorem JL (t:Int×ag) (r:ag) (acc:List cC) (i:Int) (hi:¬ i<t.1):fC t (acc,r,i)=some (Sum.inr (r,acc)):=by simp [fC,hi,bG]
theorem Ht (t:Int×ag) (r:ag) (acc:List bP) (i:Int) (hi:¬ i<t.1):fA t (r,i,acc)=some (Sum.inr (r,acc)):=by simp [fA,hi,bG]
theorem RD.Fo {l:List cC} (hl:l.length≤32) (h:∀ x∈l,Jb x):RD Fk (leB 4 l.length++(l.map EV).flatten) (l.map HH) :=
 RD.Az (fun r acc i=>(acc,r,i)) (fun r acc=>(r,acc)) (fun s=>some (s.2,s.1)) l EV HH omA deA (fun x hx=>RD.got (h x hx)) Hs JL fun r=>rfl
theorem RD.MI {l:List bP} (h:CY l):RD CE (wB l) (yi l) :=
 RD.Az (fun r acc i=>(r,i,acc)) (fun r acc=>(r,acc)) (fun s=>some (s.2,s.1)) l AN Cq (by have:=h.1; omega) deA (fun x hx=>RD.pair (h.2 x hx)) EX Ht fun r=>rfl
theorem DI (a b d:Int×ag) (g:List cC) (t:Int×ag) (r:ag) (acc:List (List bP)) (i:Int) (hi:i<t.1):fD t a b d g (acc,r,i)=(CE r).bind fun u=>gd (room acc [u.1]) (some (Sum.inl (acc++[u.1],u.2,IntKind.i64.wrap (i+(1:Int))))):=by
 have e:decide (i<t.1)=true:=by simpa using hi
 simp only [fD,e,cond_true,CE,Option.bind_assoc,Option.bind_some]
 refine bnd fun t1=>bnd ?_
 rintro ⟨r1,l1⟩
 rfl
theorem ED (a b d:Int×ag) (g:List cC) (t:Int×ag) (r:ag) (acc:List (List bP)) (i:Int) (hi:¬ i<t.1):fD t a b d g (acc,r,i)=some (Sum.inr (({E:=IntKind.i64.wrap a.1,ae:=b.1,Index:=d.1,dT:=g,aX:=acc}:bB),r)):=by simp [fD,hi,bG]
def rz:ag:={p:=[],bad:=false}
theorem IR (r:ag):gW r=(aE r (1:Int)).bind fun a=>(aE a.2 (8:Int)).bind fun b=>(aE b.2 (8:Int)).bind fun d=>(Fk d.2).bind fun g=>(cd g.2 (32:Int)).bind fun t=>bA (fD t (a.1,rz) (b.1,rz) (d.1,rz) g.1) ([],t.2,(0:Int)):=by
 unfold gW
 refine bnd fun t1=>bnd fun t2=>bnd fun t3=>?_
 simp only [Fk,Option.bind_assoc,Option.bind_some]
 refine bnd fun t4=>bnd ?_
 rintro ⟨r5,g⟩
 rfl
theorem RD.yW {x:bB} (g:td x):RD gW (uE x) (tc x):=by
 obtain ⟨h1,h2,h3,h4,h5,h6,h7⟩:=g
 have w:IntKind.i64.wrap x.E=x.E:=by
  obtain ⟨a,b⟩:=h1
  rw [pw1] at b
  rw [wrap_i64] <;> omega
 refine RD.of IR (RD.congr (b:=leB 1 (un x.E)++(leB 8 x.ae.toNat++(leB 8 x.Index.toNat++((leB 4 x.dT.length++(x.dT.map EV).flatten)++(leB 4 x.aX.length++(x.aX.map wB).flatten))))) ?_ (by simp only [uE,List.append_assoc]) rfl)
 refine RD.bind (RD.u1 h1) ?_
 dsimp only
 refine RD.bind (RD.n8 h2) ?_
 dsimp only
 refine RD.bind (RD.n8 h3) ?_
 dsimp only
 refine RD.bind (RD.Fo h6 h4) ?_
 dsimp only
 exact RD.Lu (fun r acc i=>(acc,r,i)) (fun r acc=>(({x with E:=IntKind.i64.wrap x.E,dT:=x.dT.map HH,aX:=acc}:bB),r)) x.aX wB yi omA deA (fun l hl=>RD.MI (h5 l hl)) (DI _ _ _ _) (ED _ _ _ _) fun r=>by rw [w]; rfl
noncomputable def Da (r:ag):Option (bK×ag):=(rdF r).bind fun a=>(fg a.2).bind fun d=>(du d.2 (256:Int)).bind fun b=>some (({At:=a.1,Del:=d.1,Val:=b.1}:bK),b.2)
def CK (x:bK):Prop:=isF x.At∧x.Val.length≤256∧U8s x.Val
def qT (l:List bK):Prop:=l.length≤32∧∀ x∈l,CK x
def zA (x:bK):bK:={x with At:=cf x.At}
def tw (l:List bK):List bK:=l.map zA
theorem qT.ok {l:List bK} (h:qT l):yX l:=⟨by have:=h.1; omega,fun x hx=>⟨(h.2 x hx).1,by have:=(h.2 x hx).2.1; omega⟩⟩
theorem RD.write {x:bK} (h:CK x):RD Da (Au x) (zA x):=by
 refine RD.bind (RD.f h.1) ?_
 dsimp only
 refine RD.bind (RD.flag x.Del) ?_
 dsimp only
 exact RD.map (RD.bytes x.Val (by have:=h.2.1; omega) deA h.2.2) fun r=>rfl
theorem Ei (t:Int×ag) (r:ag) (acc:List bK) (i:Int) (hi:i<t.1):fW t (r,acc,i)=(Da r).bind fun u=>gd (room acc [u.1]) (some (Sum.inl (u.2,acc++[u.1],IntKind.i64.wrap (i+(1:Int))))):=by
 have e:decide (i<t.1)=true:=by simpa using hi
 simp only [fW,e,cond_true,Da,rdF,Option.bind_assoc,Option.bind_some]
theorem EU (t:Int×ag) (r:ag) (acc:List bK) (i:Int) (hi:¬ i<t.1):fW t (r,acc,i)=some (Sum.inr (acc,r)):=by simp [fW,hi,bG]
theorem RD.writes {l:List bK} (h:qT l):RD iy (yO l) (tw l) :=
 RD.Lu (fun r acc i=>(r,acc,i)) (fun r acc=>(acc,r)) l Au zA (by have:=h.1; omega) deA (fun x hx=>RD.write (h.2 x hx)) Ei EU fun r=>rfl
def Cd (x:dV):Prop:=isU 8 x.ID∧isU 1 x.dn∧isU 1 x.To∧isF x.Lo∧isF x.Hi∧isU 8 x.Authority∧isU 4 x.cx
def Bi (x:dV):dV:={x with Lo:=cf x.Lo,Hi:=cf x.Hi}
theorem Cd.ok {x:dV} (h:Cd x):Je x:=⟨h.1.1,h.2.2.2.1,h.2.2.2.2.1,h.2.2.2.2.2.1.1⟩
theorem wY {m:Nat} {v:Int} (hm:m≤4) (h:isU m v):IntKind.i64.wrap v=v:=by
 obtain ⟨h0,h1⟩:=h
 have h8:(256:Nat) ^ m≤256 ^ 4:=Nat.pow_le_pow_right deA hm
 rw [pw4] at h8
 rw [wrap_i64] <;> omega
noncomputable def Fb (r:ag):Option (dN×ag):=(aE r (1:Int)).bind fun a=>(iy a.2).bind fun b=>some (({oD:=IntKind.i64.wrap a.1,cw:=b.1}:dN),b.2)
def BQ (x:dN):Prop:=isU 1 x.oD∧qT x.cw
def vQ (x:dN):dN:={oD:=x.oD,cw:=tw x.cw}
theorem RD.part {x:dN} (h:BQ x):RD Fb (xU x) (vQ x):=by
 refine RD.bind (RD.u1 h.1) ?_
 dsimp only
 exact RD.map (RD.writes h.2) fun r=>by rw [wY deA h.1]; rfl
theorem AX (t:Int×ag) (r:ag) (acc:List dN) (i:Int) (hi:i<t.1):fZ t (acc,r,i)=(Fb r).bind fun u=>gd (room acc [u.1]) (some (Sum.inl (acc++[u.1],u.2,IntKind.i64.wrap (i+(1:Int))))):=by
 have e:decide (i<t.1)=true:=by simpa using hi
 simp only [fZ,e,cond_true,Fb,Option.bind_assoc,Option.bind_some]
theorem Cf (t:Int×ag) (r:ag) (acc:List dN) (i:Int) (hi:¬ i<t.1):fZ t (acc,r,i)=some (Sum.inr (r,acc)):=by simp [fZ,hi,bG]
noncomputable def FK (r:ag):Option (List dN×ag):=(cd r (8:Int)).bind fun t=>(bA (fZ t) ([],t.2,(0:Int))).bind fun s=>some (s.2,s.1)
theorem RD.parts {l:List dN} (hl:l.length≤8) (h:∀ x∈l,BQ x):RD FK (leB 4 l.length++(l.map xU).flatten) (l.map vQ) :=
 RD.Az (fun r acc i=>(acc,r,i)) (fun r acc=>(r,acc)) (fun s=>some (s.2,s.1)) l xU vQ omA deA (fun x hx=>RD.part (h x hx)) AX Cf fun r=>rfl
noncomputable def Ky (r:ag):Option (cy×ag):=(aE r (8:Int)).bind fun a=>(aE a.2 (8:Int)).bind fun b=>some (({ab:=a.1,Seq:=b.1}:cy),b.2)
def idG (x:cy):Prop:=isU 8 x.ab∧isU 8 x.Seq
def cId (x:cy):cy:={ab:=x.ab,Seq:=x.Seq}
theorem RD.id {x:cy} (h:idG x):RD Ky (idB x) (cId x):=by
 refine RD.bind (RD.n8 h.1) ?_
 dsimp only
 exact RD.map (RD.n8 h.2) fun r=>rfl
def zR:bB:={E:=0,ae:=0,Index:=0,dT:=[],aX:=[]}
def zH:aw:={ID:={ab:=0,Seq:=0},ae:=0,dO:=[],aX:=[],dD:=[],Data:=[]}
def zL:dV:={ID:=0,dn:=0,To:=0,Lo:=0,Hi:=0,Authority:=0,cx:=0}
def zC:aG:={Kind:=0,ID:={ab:=0,Seq:=0},ae:=0,Index:=0,E:=0,br:=zH,cw:=[],R:=zR,bY:=0,dM:=[],ap:=zL,On:=false}
noncomputable def b1 (r:ag):Option (aG×ag):=(aE r (8:Int)).bind fun a=>some ({zC with ae:=a.1},a.2)
noncomputable def b2 (r:ag):Option (aG×ag):=(ph r).bind fun a=>some ({zC with br:=a.1},a.2)
noncomputable def b3 (r:ag):Option (aG×ag):=(Ky r).bind fun i=>(aE i.2 (1:Int)).bind fun e=>(aE e.2 (8:Int)).bind fun p=>(aE p.2 (8:Int)).bind fun x=>(iy x.2).bind fun w=>some ({zC with ID:=i.1,E:=IntKind.i64.wrap e.1,ae:=p.1,Index:=x.1,cw:=w.1},w.2)
noncomputable def b4 (r:ag):Option (aG×ag):=(Ky r).bind fun i=>(aE i.2 (8:Int)).bind fun p=>(aE p.2 (2:Int)).bind fun s=>(FK s.2).bind fun l=>(gW l.2).bind fun x=>some ({zC with ID:=i.1,ae:=p.1,bY:=s.1,dM:=l.1,R:=x.1},x.2)
noncomputable def b5 (r:ag):Option (aG×ag):=(Ky r).bind fun i=>some ({zC with ID:=i.1},i.2)
def HF (c:aG):Prop:=(1≤c.Kind∧c.Kind≤7)∧idG c.ID∧isU 8 c.ae∧isU 8 c.Index∧isU 1 c.E∧iM c.br∧qT c.cw∧td c.R∧isU 2 c.bY∧c.dM.length≤8∧(∀ x∈c.dM,BQ x)∧Cd c.ap
theorem HF.ok {c:aG} (g:HF c):MS c:=by
 obtain ⟨_,h1,h2,h3,_,h4,h5,h6,h7,h8,h9,h10⟩:=g
 exact ⟨⟨h1.1.1,h1.2.1⟩,h2.1,h3.1,h4.ok,h5.ok,h6.ok,h7.1,⟨by omega,fun x hx=>(h9 x hx).2.ok⟩,h10.ok⟩
def BH (c:aG):aG :=
 if c.Kind=1 then {zC with Kind:=1,ae:=c.ae}
 else if c.Kind=2 then {zC with Kind:=2,br:=nf c.br}
 else if c.Kind=3 then {zC with Kind:=3,ID:=cId c.ID,E:=c.E,ae:=c.ae,Index:=c.Index,cw:=tw c.cw}
 else if c.Kind=4 then {zC with Kind:=4,ID:=cId c.ID,ae:=c.ae,bY:=c.bY,dM:=c.dM.map vQ,R:=tc c.R}
 else if c.Kind=5 then {zC with Kind:=5,ID:=cId c.ID}
 else if c.Kind=6 then {zC with Kind:=6,ap:=Bi c.ap,On:=c.On}
 else if c.Kind=7 then {zC with Kind:=7,ID:=cId c.ID,ae:=c.ae,ap:=Bi c.ap,cw:=tw c.cw,R:=tc c.R}
 else zC
theorem ia {β:Type} {P:β→Prop}:∀ x∈([]:List β),P x:=fun x h=>by cases h
theorem u0 (m:Nat):isU m 0:=⟨Int.le_refl _,by have:=Nat.pow_pos (n:=m) (show 0<256 by decide); omega⟩
theorem Hm:iM zH:=⟨u0 8,u0 8,u0 8,ia,ia,ia,Nat.zero_le _,Nat.zero_le _,Nat.zero_le _,Nat.zero_le _,U8s.nil⟩
theorem Iw:td zR:=⟨u0 1,u0 8,u0 8,ia,ia,Nat.zero_le _,Nat.zero_le _⟩
theorem IE:Cd zL:=⟨u0 8,u0 1,u0 1,by show (0:Nat)<_; decide,by show (0:Nat)<_; decide,u0 8,u0 4⟩
theorem Iu:qT []:=⟨Nat.zero_le _,ia⟩
theorem kinds {k:Int} (h:1≤k∧k≤7):k=1∨k=2∨k=3∨k=4∨k=5∨k=6∨k=7:=by omega
theorem kd (k:Int) (h:1≤k∧k≤7):1≤k∧k≤7:=h
theorem eV {β:Type} {l:List β} {e:β→List Int} {m:Nat} (h:∀ x∈l,(e x).length≤m):(l.map e).flatten.length≤l.length*m:=by
 induction l with
 | nil=>simp
 | cons x l ih =>
  have h1:=h x siA
  have h2:=ih fun y hy=>h y (by simp [hy])
  simp only [List.map_cons,List.flatten_cons,List.length_append,List.length_cons,Nat.succ_mul]
  omega
theorem vA (x:Nat):(rkB x).length=8:=dA 8 _
theorem Cg {h:aw} (g:iM h):(pW h).length≤2000:=by
 obtain ⟨_,_,_,_,_,_,l1,l2,l3,l4,_⟩:=g
 have a1:=eV (l:=h.dO) (e:=rkB) (m:=8) fun x _=>by rw [vA]; omega
 have a2:=eV (l:=h.aX) (e:=scB) (m:=16) fun x _=>by simp only [scB,List.length_append,vA]; omega
 have a3:=eV (l:=h.dD) (e:=rkB) (m:=8) fun x _=>by rw [vA]; omega
 simp only [pW,byB,List.length_append,dA]
 omega
theorem DB {l:List bK} (h:qT l):(yO l).length≤10000:=by
 have a1:=eV (l:=l) (e:=Au) (m:=280) fun x hx=>by
  have := (h.2 x hx).2.1
  simp only [Au,flB,byB,List.length_append,vA,dA]; omega
 have := h.1
 simp only [yO,List.length_append,dA]
 omega
theorem AO {x:bB} (g:td x):(uE x).length≤700000:=by
 obtain ⟨h1,h2,h3,h4,h5,h6,h7⟩:=g
 have a1:=eV (l:=x.dT) (e:=EV) (m:=280) fun y hy=>by
  have := (h4 y hy).1
  simp only [EV,flB,byB,List.length_append,dA]; omega
 have a2:=eV (l:=x.aX) (e:=wB) (m:=20000) fun l hl=>by
  have b:=eV (l:=l) (e:=AN) (m:=280) fun y hy=>by
   have := ((h5 l hl).2 y hy).2.1
   simp only [AN,byB,List.length_append,vA,dA]; omega
  have := (h5 l hl).1
  simp only [wB,List.length_append,dA]; omega
 simp only [uE,List.length_append,dA]
 omega
noncomputable def tr (p:Prop):Bool := @decide p (Classical.propDecidable p)
theorem Fy {p:Prop}:tr p=true↔p:=by unfold tr; exact @decide_eq_true_iff p (Classical.propDecidable p)
theorem Ew {p:Prop} (h:p):tr p=true:=Fy.2 h
theorem CD {p:Prop} (h:¬ p):tr p=false:=by cases e:tr p with | false=>rfl | true=>exact absurd (Fy.1 e) h
theorem yY {p:Prop} {b:Bool} (h:b=true↔p):b=tr p:=by
 by_cases hp:p
 ·rw [Ew hp,h.2 hp]
 ·rw [CD hp]; cases b with | false=>rfl | true=>exact absurd (h.1 rfl) hp
theorem oR {p q:Prop} (h:p↔q):tr p=tr q:=yY (Fy.trans h)
theorem sM {p q:Prop} {b:Bool} {X:Option Bool} (hb:b = !(tr p)) (h:p→X=some (tr q)):(bif b then some false else X)=some (tr (p∧q)):=by
 subst hb
 by_cases hp:p
 ·rw [Ew hp,Bool.not_true,cond_false,h hp,oR (q:=p∧q) ⟨fun hq=>⟨hp,hq⟩,fun hq=>hq.2⟩]
 ·rw [CD hp,Bool.not_false,cond_true,CD fun h=>hp h.1]
theorem Lq (a b:Int):(a !=b) = !(tr (a=b)):=by rw [← yY (b:=a==b) siA]; rfl
theorem LL (a b:Int):(a==b)=tr (a=b):=yY siA
theorem LB {a b:List Int} (ha:U8s a) (hb:U8s b):sEq (ly a) (ly b)=tr (a=b):=by rw [Hh ha hb]; exact yY siA
theorem Cy {α β:Type} (a:List α) (b:List β):(((a.length:Nat):Int) !=((b.length:Nat):Int)) = !(tr (a.length=b.length)):=by rw [Lq]; exact congrArg _ (oR omA)
theorem yH {a b:Nat} (ha:isF a) (hb:isF b):fT a b=some (tr (cf a=cf b)):=by
 rw [rA ha hb,oR (Lb ha hb)]
 exact congrArg _ (yY siA)
theorem stp {γ:Type} {p q:Prop} {X N Y:γ} (h:X=bif tr q then Y else N):(bif !(tr p) then N else X)=bif tr (p∧q) then Y else N:=by
 by_cases hp:p
 ·rw [Ew hp,Bool.not_true,cond_false,h,oR (q:=p∧q) ⟨fun hq=>⟨hp,hq⟩,fun hq=>hq.2⟩]
 ·rw [CD hp,Bool.not_false,cond_true,CD fun h=>hp h.1,cond_false]
theorem Hk {γ:Type} {p:Prop} {N Y:γ}:(bif !(tr p) then N else Y)=bif tr p then Y else N:=by cases tr p <;> rfl
theorem cond_congr {γ:Type} {p q:Prop} {N Y:γ} (h:p↔q):(bif tr p then Y else N)=bif tr q then Y else N:=by rw [oR h]
theorem uY {α β R:Type} {body:Int→Option (Int ⊕ R)} (yes no:R) (c:α→β) (a b:List α) (hl:a.length=b.length) (hn:a.length≤1000000)
  (hstep : ∀ i (h:i<a.length),body (i:Int)=bif tr (c a[i]=c (b[i]'(hl ▸ h))) then some (Sum.inl (IntKind.i64.wrap ((i:Int)+(1:Int)))) else some (Sum.inr no))
  (hend : body (a.length:Int)=some (Sum.inr yes)):bA body (0:Int)=some (bif tr (a.map c=b.map c) then yes else no):=by
 have key:∀ k,k≤a.length→bA body ((a.length - k:Nat):Int)=some (bif tr ((a.drop (a.length - k)).map c=(b.drop (a.length - k)).map c) then yes else no):=by
  intro k
  induction k with
  | zero =>
   intro _
   have hb:b.drop (a.length - 0)=[]:=List.drop_eq_nil_of_le omA
   have ha:a.drop (a.length - 0)=[]:=List.drop_eq_nil_of_le omA
   rw [fJ,Nat.sub_zero,hend]
   simp only [Nat.sub_zero] at ha hb
   rw [ha,hb,Ew rfl]; rfl
  | succ k ih =>
   intro hk
   have hi:a.length - (k+1)<a.length:=by omega
   have e:IntKind.i64.wrap (((a.length - (k+1):Nat):Int)+(1:Int))=((a.length - k:Nat):Int):=by rw [wrap_i64] <;> omega
   have e2:a.length - (k+1)+1=a.length - k:=by omega
   have ha:a.drop (a.length - (k+1))=a[a.length - (k+1)]::a.drop (a.length - k):=by rw [List.drop_eq_getElem_cons hi,e2]
   have hb:b.drop (a.length - (k+1))=b[a.length - (k+1)]'(hl ▸ hi)::b.drop (a.length - k):=by rw [List.drop_eq_getElem_cons (hl ▸ hi),e2]
   rw [fJ,hstep _ hi,e]
   by_cases hc:c a[a.length - (k+1)]=c (b[a.length - (k+1)]'(hl ▸ hi))
   ·rw [Ew hc,cond_true]
    have h:=ih omA
    rw [ha,hb,List.map_cons,List.map_cons]
    rw [oR (q:=(a.drop (a.length - k)).map c=(b.drop (a.length - k)).map c) (by simp [hc])]
    exact h
   ·rw [CD hc,cond_false,ha,hb,List.map_cons,List.map_cons,CD (by simp [hc])]
    rfl
 have h:=key a.length (Nat.le_refl _)
 simpa using h
theorem CN {α β:Type} {c:α→β} {a b:List α} {X:Option Bool} (h:a.length=b.length→X=some (tr (a.map c=b.map c))):(bif ((a.length:Nat):Int) !=((b.length:Nat):Int) then some false else X)=some (tr (a.map c=b.map c)):=by
 rw [sM (Cy a b) h]
 exact congrArg _ (oR ⟨fun h=>h.2,fun h=>⟨by simpa using congrArg List.length h,h⟩⟩)
theorem CZ {p:Prop}:(bif tr p then true else false)=tr p:=by cases tr p <;> rfl
theorem id_eq (x y:cy):(x.ab=y.ab∧x.Seq=y.Seq)↔x=y:=by cases x; cases y; simp
theorem JJ {R:Type} {p q:Prop} {f:Unit→Option Bool} (h:p→f ()=some (tr q)):hQ (some (bif tr p then (Sum.inl ():Unit ⊕ Bool) else Sum.inr false)) f=some (tr (p∧q)):=by
 by_cases hp:p
 ·rw [Ew hp,cond_true]
  show f ()=_
  rw [h hp,oR (q:=p∧q) ⟨fun hq=>⟨hp,hq⟩,fun hq=>hq.2⟩]
 ·rw [CD hp,cond_false,CD fun h=>hp h.1]; rfl
theorem Cc {a b:aw} (ha:iM a) (hb:iM b):lD a b=some (tr (nf a=nf b)):=by
 obtain ⟨_,_,_,a4,a5,a6,a7,a8,a9,_,a10⟩:=ha
 obtain ⟨_,_,_,b4,b5,b6,b7,b8,b9,_,b10⟩:=hb
 unfold lD
 refine (sM (p:=a.ID.ab=b.ID.ab∧a.ID.Seq=b.ID.Seq) (q:=a.ae=b.ae∧a.dO.length=b.dO.length∧a.aX.length=b.aX.length∧a.dD.length=b.dD.length∧a.Data=b.Data∧a.dO.map cf=b.dO.map cf∧a.aX.map rR=b.aX.map rR∧a.dD.map cf=b.dD.map cf) ?_ fun _=>sM (Lq _ _) fun _=>sM (Cy _ _) fun hg=>sM (Cy _ _) fun hs=>sM (Cy _ _) fun hp=>sM (by rw [LB a10 b10]) fun _=>?_).trans ?_
 ·exact congrArg _ (yY siA)
 ·have e1:bA (iY a b) (0:Int)=some (bif tr (a.dO.map cf=b.dO.map cf) then Sum.inl () else Sum.inr false):=by
   refine uY (body:=iY a b) _ _ cf a.dO b.dO hg omA (fun i hi=>?_) ?_
   ·have hi':i<b.dO.length:=hg ▸ hi
    have e1:decide ((i:Int)<(a.dO.length:Int))=true:=by simpa using hi
    simp only [iY,e1,cond_true,bD hi,bD hi',Option.bind_some,yH (a4 _ (List.getElem_mem hi)) (b4 _ (List.getElem_mem hi')),bG,Option.map_some]
    exact Hk
   ·simp [iY,bG]
  have e2:bA (iP a b) (0:Int)=some (bif tr (a.aX.map rR=b.aX.map rR) then Sum.inl () else Sum.inr false):=by
   refine uY (body:=iP a b) _ _ rR a.aX b.aX hs omA (fun i hi=>?_) ?_
   ·have hi':i<b.aX.length:=hs ▸ hi
    have e1:decide ((i:Int)<(a.aX.length:Int))=true:=by simpa using hi
    simp only [iP,e1,cond_true,bD hi,bD hi',Option.bind_some,yH (a5 _ (List.getElem_mem hi)).1 (b5 _ (List.getElem_mem hi')).1,yH (a5 _ (List.getElem_mem hi)).2 (b5 _ (List.getElem_mem hi')).2,bG,Option.map_some]
    rw [stp Hk]
    exact cond_congr (by simp [rR])
   ·simp [iP,bG]
  have e3:bA (iQ a b) (0:Int)=some (tr (a.dD.map cf=b.dD.map cf)):=by
   refine (uY (body:=iQ a b) true false cf a.dD b.dD hp omA (fun i hi=>?_) ?_).trans (congrArg some CZ)
   ·have hi':i<b.dD.length:=hp ▸ hi
    have e1:decide ((i:Int)<(a.dD.length:Int))=true:=by simpa using hi
    simp only [iQ,e1,cond_true,bD hi,bD hi',Option.bind_some,yH (a6 _ (List.getElem_mem hi)) (b6 _ (List.getElem_mem hi')),bG,Option.map_some]
    exact Hk
   ·simp [iQ,bG]
  rw [e1]
  refine JJ (R:=Unit) fun _=>?_
  unfold oG
  rw [e2]
  exact JJ (R:=Unit) fun _=>e3
 ·refine congrArg _ (oR ?_)
  simp only [nf,aw.mk.injEq,cy.mk.injEq]
  constructor
  ·rintro ⟨h1,h2,_,_,_,h3,h4,h5,h6⟩
   exact ⟨(id_eq _ _).1 h1,h2,h4,h5,h6,h3⟩
  ·rintro ⟨h1,h2,h4,h5,h6,h3⟩
   exact ⟨(id_eq _ _).2 h1,h2,by simpa using congrArg List.length h4,by simpa using congrArg List.length h5,by simpa using congrArg List.length h6,h3,h4,h5,h6⟩
end Go.Proofs.YtgnkkopjkgdieaaGreat
