/- A part of the proof. -/
import Derived.Test.YtgnkkopjkgdieaaGreatLaneBytesR3
set_option linter.unusedVariables false
set_option linter.unusedSimpArgs false
set_option maxRecDepth 100000
set_option maxHeartbeats 4000000
namespace Go.Proofs.YtgnkkopjkgdieaaGreat
open Go Go.V
open _root_.Go.Proofs.Tryz IntKind
variable {w0 w:World} {I:HL} {R:SP}
attribute [local irreducible] wpList Code.wp wpQuiet Calls bodyPost Oper.wp wpS Nx kL YieldsIn
theorem Dc {a0:(List dz)} {j:Value} {a1 a2:Int} (i:Rd fi R I j a0) (c:St w0 w I [] R) {r:(dV×Bool)} (b:wK a0 a1 a2=some r) :
  Calls prog 95 #[j,U6 a1,U6 a2] w fun e w'=>e = .returned (.tuple #[.agg #[U6 r.1.ID,I6 r.1.dn,I6 r.1.To,F6 r.1.Lo,F6 r.1.Hi,U6 r.1.Authority,I6 r.1.cx],.bool r.2])∧St w0 w' I [] R:=by {
 unfold wK at b
 refine c0 func95 z z (ww ?_)
 obtain ⟨A,X,M,N,c⟩:=c.box [Zu,Zi,Zi,Zf,Zf,Zu,Zi] 39
 refine wa M N (mb z (nt (ww (mk (.agg #[Zu,Zi,Zi,Zf,Zf,Zu,Zi]) ?_))))
 obtain ⟨B,Y,O,P,c⟩:=c.box [Zu,Zi,Zi,Zf,Zf,Zu,Zi] 39
 refine wa O P (bxk c z sI (oJ 7 z oN) fun Z c=>nt (ww (mb z (nt ?_))))
 obtain ⟨Q,b,S⟩:=bn b
 refine cR (fun a w=>∃ (C:Int) (D:Int) (E:Int) (F:Nat) (G:Nat) (H:Int) (J:Int) (K:Bool),(xa) (C,D,E,F,G,H,J,K)=some r∧fz 59 [6,8,9] [Pt A 0,Pt B 0,.bool K] a∧St w0 w I [cells A [Zu,Zi,Zi,Zf,Zf,Zu,Zi],cells B [U6 C,I6 D,I6 E,F6 F,F6 G,U6 H,I6 J]] R) ?_ ?_
 {
 refine ww (mi z (nt (au ?_)))
 obtain ⟨T,b⟩:=aS b
 refine bg (fun n a w=>∃ (k:Int) (l:Int) (m:Int) (o:Nat) (p:Nat) (q:Int) (s:Int) (L:Int) (t:Bool),cU (oI a0 a1 a2) n (k,l,m,o,p,q,s,L,t)=some Q∧fz 59 [0,1,2,6,8,9,10] [j,U6 a1,U6 a2,Pt A 0,Pt B 0,.bool t,I6 L] a∧St w0 w I [cells B [U6 k,I6 l,I6 m,F6 o,F6 p,U6 q,I6 s],cells A [Zu,Zi,Zi,Zf,Zf,Zu,Zi]] R) T ⟨0,0,0,(0:Nat),(0:Nat),0,0,0,false,b,fy z,c⟩ ?_
 rintro b0 _ b1 ⟨k,l,m,o,p,q,s,L,t,b,⟨b2,rfl⟩,c⟩
 obtain ⟨b3,b4,rfl,b,u⟩:=aU b
 dsimp only [oI] at b
 refine aj (ww (mi z (mv (j) z (mz (bX z uI (ay i)) (mb z (nt (bw b z ?_ ?_)))))))
 {
 refine fun U b=>al (tn (aj (au (ww (mv (j) z (mi z ?_))))))
 obtain ⟨h,V,b⟩:=bn b
 obtain ⟨v,x,y⟩:=aV V
 refine mz (aJ z z uI sI (ay i) v x) (mz (xG z fI z) (mz (xG z fI z) (mL z (fb i lr c y riA) (mi z (mb z (mb z (bs b ?_ ?_)))))))
 {
 refine fun f b=>gv (j) f z (gi f z (gg f (aJ z z uI sI (ay i) v x) (gg f (xG z fI z) (gg f (xL z (fb i lr c y riA)) (gi f z (gb f z (mb (bi f z z) (mb z (bs b ?_ ?_)))))))))
 {
 refine fun d b=>gv (j) d z (gi d z (gg d (aJ z z uI sI (ay i) v x) (gg d (xG z fI z) (gg d (xL z (fb i lr c y riA)) (gb d z (gb d z (bs b ?_ ?_)))))))
 {
 refine fun g b=>go g (go g (go g (go g (go g (go g (go g (gb d (bi g z z) (mb (bi d z z) (nt (eG z (ww (mv (j) z (mi z (mz (aJ z z uI sI (ay i) v x) (mz (xG z fI z) (mz (xN (cs:=[U6 h.R.ID,I6 h.R.dn,I6 h.R.To,F6 h.R.Lo,F6 h.R.Hi,U6 h.R.Authority,I6 h.R.cx]) z (sG i lr c y 0 riA)) (bxk c z sI (oJ 7 z oN) fun b5 c=>nt (wrl (mb z (dv (bJ (tn (wrl (mi z (mi z (mi z (nt ?_)))))))))))))))))))))))))))
 cases b
 exact ⟨_,nls,_,_,_,_,_,_,_,_,true,u,fy z,c.ah.ah.cv⟩
}
 refine fun g b=>gi g z (gv (j) g z (gi g z (gg g (aJ z z uI sI (ay i) v x) (gg g (xG z fI z) (gg g (xL z (fb i lr c y riA)) (gb g z (gb d (aL g z z) (mb (bi d z z) (nt (bw b z ?_ ?_))))))))))
 {
 refine fun W b=>ww (mv (j) z (mi z (mz (aJ z z uI sI (ay i) v x) (mz (xG z fI z) (mz (xN (cs:=[U6 h.R.ID,I6 h.R.dn,I6 h.R.To,F6 h.R.Lo,F6 h.R.Hi,U6 h.R.Authority,I6 h.R.cx]) z (sG i lr c y 0 riA)) (bxk c z sI (oJ 7 z oN) fun b6 c=>nt (wrl (mb z (dv (bJ (tn (wrl (mi z (mi z (mi z (nt ?_))))))))))))))))
 cases b
 exact ⟨_,nls,_,_,_,_,_,_,_,_,true,u,fy z,c.ah.ah.cv⟩
}
 refine fun W b=>al (bJ (tn (wrl (mi z (mi z (mi z (nt ?_)))))))
 cases b
 exact ⟨_,nls,k,l,m,o,p,q,s,_,t,u,fy z,c.ah.ah.cv⟩
}
 refine fun d b=>go d (go d (go d (go d (go d (go d (go d (gu (gu (gu (gu (gu (gu (gu (go d (mb (aL d z z) (nt (cJ z (al (bJ (tn (wrl (mi z (mi z (mi z (nt ?_)))))))))))))))))))))))))
 cases b
 exact ⟨_,nls,k,l,m,o,p,q,s,_,t,u,fy z,c.ah.ah.cv⟩
}
 refine fun f b=>go f (go f (go f (go f (go f (go f (go f (mb (aL f z z) (mb z (gz (gz (gz (gz (gz (gz (gz (gu (gu (gu (gu (gu (gu (gu (gz (mb (aL z z z) (nt (cJ z (al (bJ (tn (wrl (mi z (mi z (mi z (nt ?_))))))))))))))))))))))))))))))))))
 cases b
 exact ⟨_,nls,k,l,m,o,p,q,s,_,t,u,fy z,c.ah.ah.cv⟩
}
 refine fun U b=>bH (aQ (aQ ?_))
 replace b:=bz b u
 refine cZ (tn ?_)
 cases b
 exact ⟨k,l,m,o,p,q,s,t,S,fy z,c.ah.cv⟩
}
 rintro _ b7 ⟨C,D,E,F,G,H,J,K,b,⟨b8,rfl⟩,c⟩
 dsimp only [xa] at b
 refine ww (mz (xN z (c.fO 0 tz)) (mb z (bxk c z sI (oJ 7 z oN) fun b9 c=>mb z (nt (ar ?_)))))
 cases b
 exact dI [.agg #[U6 C,I6 D,I6 E,F6 F,F6 G,U6 H,I6 J],.bool K] z (ea (rN z (c.fm 0 tz)) (rc z bl)) ⟨z,c.cT⟩
}
theorem yr {a0 a1:dV} (b:St w0 w I [] R) {r:(Bool)} (a:oX a0 a1=some r) :
  Calls prog 96 #[.agg #[U6 a0.ID,I6 a0.dn,I6 a0.To,F6 a0.Lo,F6 a0.Hi,U6 a0.Authority,I6 a0.cx],.agg #[U6 a1.ID,I6 a1.dn,I6 a1.To,F6 a1.Lo,F6 a1.Hi,U6 a1.Authority,I6 a1.cx]] w fun e w'=>e = .returned (.bool r)∧St w0 w' I [] R:=by {
 unfold oX at a
 refine c0 func96 z z (ww ?_)
 obtain ⟨p,q,j,k,b⟩:=b.box [U6 a0.ID,I6 a0.dn,I6 a0.To,F6 a0.Lo,F6 a0.Hi,U6 a0.Authority,I6 a0.cx] 39
 refine wa j k ?_
 obtain ⟨s,t,l,m,b⟩:=b.box [U6 a1.ID,I6 a1.dn,I6 a1.To,F6 a1.Lo,F6 a1.Hi,U6 a1.Authority,I6 a1.cx] 39
 refine wa l m (mb z (nt (ww (mF z fI (mL z (b.bc1 z) (mF z fI (mL z (b.bc0 z) (mb z (mb z (bs a ?_ ?_))))))))))
 {
 refine fun c a=>gg c (xF z fI z) (gg c (xL z (b.bc1 z)) (gg c (xF z fI z) (gg c (xL z (b.bc0 z)) (gb c z (mb (bi c z z) (mb z (bs a ?_ ?_)))))))
 {
 refine fun d a=>gg d (xF z fI z) (gg d (xL z (b.bc1 z)) (gg d (xF z fI z) (gg d (xL z (b.bc0 z)) (gb d z (mb (bi d z z) (mb z (bs a ?_ ?_)))))))
 {
 refine fun f a=>gg f (xF z fI z) (gg f (xL z (b.bc1 z)) (gg f (xF z fI z) (gg f (xL z (b.bc0 z)) (bk a fun u n a=>dh ((av z z z (cvb f)).trans z) z (gO call20 z (vs:=[F6 a0.Lo,F6 a1.Lo]) z) (kcO (fL b.to0 n) fun v b=>mb (bi f z z) (mb z (bs a ?_ ?_)))))))
 {
 refine fun g a=>gg g (xF z fI z) (gg g (xL z (b.bc1 z)) (gg g (xF z fI z) (gg g (xL z (b.bc0 z)) (bk a fun x o a=>dh ((av z z z (cvb g)).trans z) z (gO call20 z (vs:=[F6 a0.Hi,F6 a1.Hi]) z) (kcO (fL b.to0 o) fun y b=>mb (bi g z z) (mb z (bs a ?_ ?_)))))))
 {
 refine fun h a=>gg h (xF z fI z) (gg h (xL z (b.bc1 z)) (gg h (xF z fI z) (gg h (xL z (b.bc0 z)) (gb h z (mb (bi h z z) (mb z (bs a ?_ ?_)))))))
 {
 refine fun i a=>gg i (xF z fI z) (gg i (xL z (b.bc1 z)) (gg i (xF z fI z) (gg i (xL z (b.bc0 z)) (gb i z (mb (bi i z z) (mb z (nt (ar ?_))))))))
 cases a
 exact pB z z ⟨z,b.cT⟩
}
 intro i a
 cases a
}
 intro h a
 cases a
}
 intro g a
 cases a
}
 intro f a
 cases a
}
 intro d a
 cases a
}
 intro c a
 cases a
}
theorem Be {a0:(Option ai)} {p0:Value} {a1:aq} {p1:Value} (b:St w0 w I [cX aM p0 a0,bm p1 a1] R) {r:(Bool)} (c:tQ a0 a1=some r) :
  Calls prog 40 #[p0,p1] w fun e w'=>∃ (I':HL),e = .returned (.bool r)∧I.le I'∧St w0 w' I' [cX aM p0 a0,bm p1 a1] R:=by {
 unfold tQ at c
 refine c0 func40 z z ?_
 have b0:=HL.le.refl I
 refine ww (mb z (nt (aj (aj ?_))))
 obtain ⟨f,W0,W1,W2,W3,W4,W5,W6,⟨rfl,A6,A7,A8,A9⟩,B0⟩:=bS b.ah
 have b:=B0
 refine rg b 24 [0,1,0,4,12,28,63,127,255,511,255,2047,4095,8191,16383,32767,65535,32767,163839,425983,950271,2097151,4194303,8388607] [] mixed (sz (p0) 0 z z (sp 2 z z (sp 3 z z (sF 4 z z fI (sL 5 z z (·.bc0 z) (e1 1 z z fun w b=>?_))))))
 replace b:=b.bj
 obtain ⟨W7,B1,c⟩:=bn c
 refine wec call24 [p0] z z (kcI (sS b.to1 B1) fun W8 b=>wn [5,4,3,2] b (pL z z (·.bc1 z) (pF z z fI (pz (pz aT)))) (sb 6 z z (sb 7 z z (bs c ?_ ?_))))
 {
 intro S c
 cases c
}
 refine fun S c=>sgz p0 8 z S z (sgz (Pt _ _) 10 z S z (iN 9 krA (nxe [11,12,13,14,15,16,17,18,19,20,21,22,23] krA z ((av z z z (cvb S)).trans z) ?_)))
 clear b
 intro w b
 obtain ⟨B2,B3,c⟩:=bn c
 refine wec call85 [p0] z z (kcI (uf b.to1 B3) fun W9 b=>wn [10] b (dx z (di ((av z z z (cvb S)).trans z) (fun w b=>z)) aT) (iN 11 krA (nxe [12,13,14,15,16,17,18,19,20,21,22,23] krA z ((av z z z (cvb S)).trans z) ?_)))
 clear b
 intro w b
 replace b:=aC (Pt f 0) a1 b.bj.bj.bj.bj ⟨z,A6,A7,A8,A9⟩
 obtain ⟨B4,B5,c⟩:=bn c
 refine wec call67 [Pt f 0] z z (kca (tp b.to1 B5) fun X0 b=>?_)
 obtain ⟨X1,X2,X3,X4,X5,B6,X6,X7,⟨i2,B7,m9,B8,B9⟩,C0⟩:=bS b.of1
 replace i2:=ez i2
 subst i2
 have b:=C0
 refine w0n b (sgk (.bool (!(B2==B4))) 12 z S (sh (.bool _) 13 z (fun w b=>aL S z z) (sb 14 z z (bs c ?_ ?_))))
 {
 intro C c
 cases c
}
 refine fun C c=>sgz p0 15 z C z (sgz (Pt _ _) 17 z C z (sgz (Pt _ _) 18 z C z (sg _ 19 z C (fun w b=>xF z fI z) (sg _ 20 z C (fun w b=>xL z (b.bc0 z)) (iN 16 krA (nxe [21,22,23] krA z ((av z z z (cvb C)).trans z) ?_))))))
 clear b
 intro w b
 replace b:=b.bj
 obtain ⟨X8,C1,c⟩:=bn c
 refine wec call23 [p0] z z (kdJ (xM b.to1 C1) fun C2 X9 b=>wn [20,19,18,17] b (dx z (di ((av z z z (cvb C)).trans z) (fun w b=>xL z (b.bc2 z))) (dx z (di ((av z z z (cvb C)).trans z) (fun w b=>xF z fI z)) (dx z (di ((av z z z (cvb C)).trans z) (fun w b=>z)) (dx z (di ((av z z z (cvb C)).trans z) (fun w b=>z)) aT)))) (iN 21 krA (nxe [22,23] krA z ((av z z z (cvb C)).trans z) ?_)))
 clear b
 intro w b
 obtain ⟨Y0,n0,b⟩:=b.cz
 replace b:=b.aA
 obtain ⟨Y1,n1,b⟩:=b.cz
 obtain ⟨Y2,C3,c⟩:=bn c
 refine wec call86 [C2,B6] z z (kcO (uN (b.tg n0) (b.jA n1) b.to0 C3) fun Y3 b=>?_)
 replace b:=(b.ah.bo n0).ah.bo n1
 refine w0n b (sgz (.bool _) 22 z C z (sh (.bool _) 23 z (fun w b=>aL C z z) (bt ?_)))
 refine fun w b=>tn (bw c z ?_ ?_)
 {
 intro C4 c
 cases c
}
 refine fun C4 c=>al (tn (ww (mv (p0) z ?_)))
 replace b:=b.aD
 obtain ⟨i3,C5,c⟩:=bn c
 refine wc call87 [p0] z z z (kdJ (vD b.to1 C5) fun P Y4 b=>mv (P) z (nt (aj (ww (mv (P) z (mz (bX z uI b.sv0) (mp z (mp z (mF z fI (mL z (b.bc4 z) (mz (bX z uI (ak m9)) (mb z (nt (bw c z ?_ ?_))))))))))))))
 {
 intro C6 c
 cases c
}
 refine fun C6 c=>al (tn ?_)
 obtain ⟨C7,c,C8⟩:=ee c
 refine cR (fun a w=>∃ (b4:HL),(qf a0 a1) ()=some r∧fz 267 [0,1] [p0,Pt f 0] a∧I.le b4∧St w0 w b4 [cX aM p0 a0,bm (Pt f 0) a1] R) ?_ ?_
 {
 have i4:=HL.le.refl I
 refine ww (mi z (nt (au ?_)))
 replace b:=(aC (Pt f 0) a1 b.de.de.bj.de ⟨z,B7,m9,B8,B9⟩).aA.sub
 obtain ⟨C9,c⟩:=aS c
 refine bg (fun n a w=>∃ (i5:HL) (d0:Int),cU (mD i3 a0 a1) n d0=some C7∧fz 267 [0,1,5,6] [p0,Pt f 0,P,I6 d0] a∧I.le i5∧St w0 w i5 [bm (Pt f 0) a1,bp pA P i3,cX aM p0 a0] R) C9 ⟨_,0,c,fy z,lr,b⟩ ?_
 rintro Y5 _ Y6 ⟨i5,d0,c,⟨Y7,rfl⟩,b5,b⟩
 obtain ⟨Y8,D0,rfl,c,n2⟩:=aU c
 dsimp only [mD] at c
 replace i4:=i4.trans b5
 refine aj (ww (mi z (mv (P) z (mz (bX z uI b.sv1) (mb z (nt (bw c z ?_ ?_)))))))
 {
 refine fun D1 c=>al (tn (aj (au (ww (mv (p0) z (mv (P) z (mi z ?_)))))))
 obtain ⟨G,D2,c⟩:=bn c
 obtain ⟨i6,i7,i8⟩:=aV D2
 refine mz (aJ z z uI sI b.sv1 i6 i7) (mz (xN (cs:=[U6 G.ab,U6 G.Seq]) z (b.Mg i8 0 riA)) ?_)
 replace b:=b.aD
 obtain ⟨B,D3,c⟩:=bn c
 refine wc call88 [p0,.agg #[U6 G.ab,U6 G.Seq]] z z z ((xw b.to1 D3).mono ?_)
 rintro _ Y9 ⟨n3,f4,f5,f6,f7,rfl,D4,f8,f9,g0,g1,b⟩
 refine ⟨_,z,?_⟩
 replace b:=b.of1
 replace b5:=b5.trans D4
 refine mv (.tuple #[.agg #[U6 B.1.ID.ab,U6 B.1.ID.Seq,U6 B.1.ae,f4,f5,f6,f7],.bool B.2]) z (mv (.agg #[U6 B.1.ID.ab,U6 B.1.ID.Seq,U6 B.1.ae,f4,f5,f6,f7]) z (mb z ?_))
 obtain ⟨n4,Z0,D5,D6,b⟩:=b.box [Zu,Zu,Zu,Zs,Zs,Zs,Zs] 46
 refine wa D5 D6 (bxk b z sI (oJ 3 z (oC (oS (ak f8)) (oC (oS (ak f9)) (oC (oS (ak g0)) (oC (oS (ak g1)) oN))))) fun Z1 b=>mb z (nt (aj ?_)))
 obtain ⟨Z2,Z3,n5,Z4,Z5,Z6,Z7,Z8,⟨i9,b6,T,b7,b8⟩,D7⟩:=bS b.aD
 replace i9:=ez i9
 subst i9
 have b:=D7
 obtain ⟨Z9,c,n6⟩:=bn c
 refine vy (fun a w=>∃ (b1:HL) (d1:Int) (d2:Int) (d3:Int) (g2:(List Nat)) (g3:(List (Nat×Nat))) (g4:(List Nat)) (g5:(List Int)) (j0:Bool) (j1:Nat) (g6:Value) (g7:Value) (g8:Value) (g9:Value),(sC B d0) (d1,d2,d3,g2,g3,g4,g5,j0)=some D0∧fz 267 [0,1,5,6,7,8,9,10] [p0,Pt f 0,P,I6 d0,Pt n4 0,.bool B.2,Pt j1 0,.bool j0] a∧n3.le b1∧Ro cp b1 g6 g2∧Ro fU b1 g7 g3∧Ro cp b1 g8 g4∧Ro (cr .u8) b1 g9 g5∧St w0 w b1 [cX aM p0 a0,bm (Pt f 0) a1,bp pA P i3,cells n4 [U6 B.1.ID.ab,U6 B.1.ID.Seq,U6 B.1.ae,f4,f5,f6,f7],cells j1 [U6 d1,U6 d2,U6 d3,g6,g7,g8,g9]] R) ?_ ?_
 {
 have b9:=HL.le.refl n3
 refine rg b 15 [0,1,3,7,0,0,48,112,255,511,1023,1023,0,6143,16383] [] mixed (sp 0 z z (sp 1 z z (sF 2 z z fI (sL 3 z z (·.bc0 z) (sz (P) 4 z z (si 5 z z (sh _ 6 z (fun w b=>aJ z z uI sI b.sv6 i6 i7) (sh _ 7 z (fun w b=>xN (cs:=[U6 G.ab,U6 G.Seq]) z (b.MZ i8 0 riA)) ?_))))))))
 refine bk c fun D n7 c=>tZ 8 12 krA ?_ ?_
 {
 refine nx z z fun w b=>wec call70 [n5,.agg #[U6 G.ab,U6 G.Seq]] z z ((mU T b.to0 n7).mono ?_)
 rintro _ a00 ⟨a01,j2,j3,j4,j5,rfl,d4,n8,n9,o0,o1,b⟩
 refine ⟨_,z,?_⟩
 replace b:=b.of0
 replace b6:=b6.mono (ro_le d4)
 replace T:=T.mono (ro_le d4)
 replace b7:=b7.mono (ro_le d4)
 replace b8:=b8.mono (ro_le d4)
 replace b9:=b9.trans d4
 refine w0n b (sz (.tuple #[.agg #[U6 D.1.ID.ab,U6 D.1.ID.Seq,U6 D.1.ae,j2,j3,j4,j5],.bool D.2]) 9 z z (sz (.agg #[U6 D.1.ID.ab,U6 D.1.ID.Seq,U6 D.1.ae,j2,j3,j4,j5]) 10 z z (sb 11 z z (e1 12 z z fun w b=>?_))))
 obtain ⟨o2,D8,D9,E0,b⟩:=b.box [Zu,Zu,Zu,Zs,Zs,Zs,Zs] 46
 refine cj (v:=Pt o2 0) (w':=D8) z (yC krA D9 E0) (wn [11,10,9] b (pz (pz (pz aT))) (e1 13 z z fun w b=>bxe b z sI (oJ 3 z (oC (oS (ak n8)) (oC (oS (ak n9)) (oC (oS (ak o0)) (oC (oS (ak o1)) oN))))) fun a02 b=>wn [11] b (pz aT) (sb 14 z z (bt ?_))))
 intro w b
 refine ⟨z,?_⟩
 cases c
 exact ⟨_,_,_,_,_,_,_,_,_,o2,j2,j3,j4,j5,n6,fy z,b9,n8,n9,o0,o1,(aC (Pt f 0) a1 b.bj.bj.bj.bj ⟨z,b6,T,b7,b8⟩).ah.aD.bj.aA.bj.oB⟩
}
 refine nx z z fun w b=>?_
 obtain ⟨o3,E1,E2,E3,b⟩:=b.box [Zu,Zu,Zu,Zs,Zs,Zs,Zs] 46
 refine cj (v:=Pt o3 0) (w':=E1) z (yC krA E2 E3) (wn [7,6,5,4,3,2,1,0] b (pkr z z (fun w b=>xN (cs:=[U6 G.ab,U6 G.Seq]) z (b.ME i8 0 riA)) (pkr z z (fun w b=>aJ z z uI sI b.sv7 i6 i7) (pz (pz (pL z z (·.bc1 z) (pF z z fI (pz (pz aT)))))))) (e1 8 z z fun w b=>wec call70 [n5,.agg #[U6 G.ab,U6 G.Seq]] z z ((mU T b.to0 n7).mono ?_)))
 rintro _ a03 ⟨a04,j6,j7,j8,j9,rfl,d5,o4,o5,o6,o7,b⟩
 refine ⟨_,z,?_⟩
 replace b:=b.of0
 replace b6:=b6.mono (ro_le d5)
 replace T:=T.mono (ro_le d5)
 replace b7:=b7.mono (ro_le d5)
 replace b8:=b8.mono (ro_le d5)
 replace b9:=b9.trans d5
 refine w0n b (sz (.tuple #[.agg #[U6 D.1.ID.ab,U6 D.1.ID.Seq,U6 D.1.ae,j6,j7,j8,j9],.bool D.2]) 9 z z (sz (.agg #[U6 D.1.ID.ab,U6 D.1.ID.Seq,U6 D.1.ae,j6,j7,j8,j9]) 10 z z (sb 11 z z (e1 13 z z fun w b=>bxe b z sI (oJ 3 z (oC (oS (ak o4)) (oC (oS (ak o5)) (oC (oS (ak o6)) (oC (oS (ak o7)) oN))))) fun a05 b=>wn [11] b (pz aT) (sb 14 z z (bt ?_))))))
 intro w b
 refine ⟨z,?_⟩
 cases c
 exact ⟨_,_,_,_,_,_,_,_,_,o3,j6,j7,j8,j9,n6,fy z,b9,o4,o5,o6,o7,(aC (Pt f 0) a1 b.bj.bj.bj.bj ⟨z,b6,T,b7,b8⟩).ah.aD.bj.aA.bj.oB⟩
}
 rintro _ a06 ⟨b1,d1,d2,d3,g2,g3,g4,g5,j0,j1,g6,g7,g8,g9,c,⟨a07,rfl⟩,d6,E4,E5,E6,E7,b⟩
 dsimp only [sC] at c
 replace f8:=f8.mono (ro_le d6)
 replace f9:=f9.mono (ro_le d6)
 replace g0:=g0.mono (ro_le d6)
 replace g1:=g1.mono (ro_le d6)
 replace b5:=b5.trans d6
 refine tn (ww (mb z (mb z (mb z (bs c ?_ ?_)))))
 {
 intro h0 c
 cases c
}
 refine fun h0 c=>gb h0 z (gb h0 z (mb (aL h0 z z) (mb z (bs c ?_ ?_))))
 {
 intro c1 c
 cases c
}
 refine fun c1 c=>gg c1 (xN z (b.ul 0 tz)) (gg c1 (xN z (b.BI 0 tz)) (bk c fun a08 E8 c=>dh ((av z z z (cvb c1)).trans z) z (gO call89 z (vs:=[.agg #[U6 B.1.ID.ab,U6 B.1.ID.Seq,U6 B.1.ae,f4,f5,f6,f7],.agg #[U6 d1,U6 d2,U6 d3,g6,g7,g8,g9]]) z) (kcO (ug (a1:=({ID:=({ab:=d1,Seq:=d2}:cy),ae:=d3,dO:=g2,aX:=g3,dD:=g4,Data:=g5}:aw)) (f8.mono cS) (f9.mono cS) (g0.mono cS) (g1.mono cS) (E4.mono cS) (E5.mono cS) (E6.mono cS) (E7.mono cS) b.to0 E8) fun a09 b=>gb c1 z (mb (aL c1 z z) (nt (bw c z ?_ ?_))))))
 {
 intro E9 c
 cases c
}
 refine fun E9 c=>al (bJ (tn (wrl (mi z (mi z (mi z (nt ?_)))))))
 cases c
 exact ⟨_,nls,_,_,n2,fy z,b5,b.aD.aD.eu⟩
}
 refine fun D1 c=>bH (aQ (aQ ?_))
 replace c:=bz c n2
 refine cZ (tn ?_)
 cases c
 exact ⟨_,C8,fy z,i4,b.aD.cv⟩
}
 rintro _ a10 ⟨b4,c,⟨a11,rfl⟩,G0,b⟩
 dsimp only [qf] at c
 replace b0:=b0.trans G0
 obtain ⟨G1,c,G2⟩:=ee c
 refine cR (fun a w=>∃ (h1:HL),(uD a0 a1) ()=some r∧fz 267 [0,1] [p0,Pt f 0] a∧b4.le h1∧St w0 w h1 [cX aM p0 a0,bm (Pt f 0) a1] R) ?_ ?_
 {
 have k0:=HL.le.refl b4
 refine ww (mi z (nt (au ?_)))
 obtain ⟨G3,c⟩:=aS c
 refine bg (fun n a w=>∃ (d7:HL) (A:Int),cU (nY a0 a1) n A=some G1∧fz 267 [0,1,11] [p0,Pt f 0,I6 A] a∧b4.le d7∧St w0 w d7 [cX aM p0 a0,bm (Pt f 0) a1] R) G3 ⟨_,0,c,fy z,lr,b⟩ ?_
 rintro a12 _ a13 ⟨d7,A,c,⟨a14,rfl⟩,c2,b⟩
 obtain ⟨a15,o8,rfl,c,o9⟩:=aU c
 dsimp only [nY] at c
 replace k0:=k0.trans c2
 refine aj (ww (mi z (mb z (nt (bw c z ?_ ?_)))))
 {
 refine fun G4 c=>al (tn (aj (au (aj (aj ?_)))))
 obtain ⟨a16,k1,a17,a18,a19,a20,a21,a22,⟨k2,k,t,u,x⟩,G5⟩:=bS b.ah
 replace k2:=ez k2
 subst k2
 have b:=G5
 obtain ⟨a23,c,h2⟩:=bn c
 refine vy (fun a w=>∃ (h3:HL) (k3:Bool),(ss A a0 a1) k3=some o8∧fz 267 [0,1,11,117] [p0,Pt f 0,I6 A,.bool k3] a∧d7.le h3∧St w0 w h3 [cX aM p0 a0,bm (Pt f 0) a1] R) ?_ ?_
 {
 have y:=HL.le.refl d7
 refine rg b 15 [0,0,2,7,15,0,32,96,224,0,527,2031,4079,8191,16383] [] mixed (sz (p0) 0 z z (si 1 z z (sp 5 z z (sp 6 z z (sF 7 z z fI (sL 8 z z (·.bc0 z) (si 9 z z (e1 2 z z fun w b=>bk c fun G6 G7 c=>wec call90 [I6 A] z z (kcO (oq b.to0 G7) fun a24 b=>wn [9,8,7,6,5,0] b (pz (pL z z (·.bc0 z) (pF z z fI (pz (pz (pz aT)))))) (e1 3 z z fun w b=>?_))))))))))
 replace b:=b.bj
 obtain ⟨U,G8,c⟩:=bn c
 refine wec call21 [p0,F6 G6] z z (kdJ (yA b.to1 G8) fun h4 a25 b=>wn [9,8,7,6,5] b (pz (pL z z (·.bc2 z) (pF z z fI (pz (pz aT))))) (bk c fun k4 q0 c=>tZ 4 10 krA ?_ ?_))
 {
 refine nx z z fun w b=>?_
 obtain ⟨a26,d8,q1,b⟩:=b.cO
 replace k:=k.mono (ro_le d8)
 replace t:=t.mono (ro_le d8)
 replace u:=u.mono (ro_le d8)
 replace x:=x.mono (ro_le d8)
 replace y:=y.trans d8
 obtain ⟨q2,G9,H0,H1,b⟩:=b.lits (E:=aK) (xs:=[U]) [[.bool U.Has,h4]] 61 1 z (bT.cons ⟨_,z,q1,oS (ak q1)⟩ bT.nil)
 refine cj (v:=(.slice (some ⟨q2,0,none⟩) 1 1)) (w':=G9) z (dH krA H0 H1) (wn [9,8,7,6,5] b (pz (pL z z (·.bc2 z) (pF z z fI (pz (pz aT))))) (e1 10 z z fun w b=>wec call90 [I6 A] z z (kcO (oq b.to0 q0) fun a27 b=>wn [8,7,6,5] b (pL z z (·.bc2 z) (pF z z fI (pz (pz aT)))) (e1 11 z z fun w b=>?_))))
 refine bk c fun q3 H2 c=>wec call80 [k1,F6 k4,U6 18446744073709551615] z z ((kS k b.to0 H2).mono ?_)
 rintro _ a28 ⟨a29,H3,rfl,d9,q4,b⟩
 refine ⟨_,z,?_⟩
 replace b:=b.of0
 replace k:=k.mono (ro_le d9)
 replace t:=t.mono (ro_le d9)
 replace u:=u.mono (ro_le d9)
 replace x:=x.mono (ro_le d9)
 replace y:=y.trans d9
 refine w0n b (e1 12 z z fun w b=>?_)
 obtain ⟨q5,H4,H5,H6,b⟩:=b.lits (E:=aK) (xs:=[q3]) [[.bool q3.Has,H3]] 61 1 z (bT.cons ⟨_,z,q4,oS (ak q4)⟩ bT.nil)
 refine cj (v:=(.slice (some ⟨q5,0,none⟩) 1 1)) (w':=H4) z (dH krA H5 H6) (w0n b (e1 13 z z fun w b=>?_))
 replace b:=b.ah
 obtain ⟨a30,q6,b⟩:=b.cz
 replace b:=b.ah
 obtain ⟨a31,q7,b⟩:=b.cz
 obtain ⟨a32,H7,c⟩:=bn c
 refine wec call78 [(.slice (some ⟨q2,0,none⟩) 1 1),(.slice (some ⟨q5,0,none⟩) 1 1)] z z (kcO (fE (b.tg q6) (b.jA q7) b.to0 H7) fun a33 b=>?_)
 replace b:=(b.ah.bo q6).ah.bo q7
 refine w0n b (sb 14 z z (bt ?_))
 intro w b
 refine ⟨z,?_⟩
 cases c
 exact ⟨_,_,h2,fy z,y,(aC (Pt f 0) a1 b.de.de.de.de ⟨z,k,t,u,x⟩).aA.cv⟩
}
 refine nx z z fun w b=>wec call90 [I6 A] z z (kcO (oq b.to0 q0) fun a34 b=>wn [8,7,6,5] b (pL z z (·.bc2 z) (pF z z fI (pz (pz aT)))) (bk c fun c3 q8 c=>tZ 4 11 krA ?_ ?_))
 {
 refine nx z z fun w b=>?_
 obtain ⟨a35,e0,q9,b⟩:=b.cO
 replace k:=k.mono (ro_le e0)
 replace t:=t.mono (ro_le e0)
 replace u:=u.mono (ro_le e0)
 replace x:=x.mono (ro_le e0)
 replace y:=y.trans e0
 obtain ⟨s0,H8,H9,J0,b⟩:=b.lits (E:=aK) (xs:=[U]) [[.bool U.Has,h4]] 61 1 z (bT.cons ⟨_,z,q9,oS (ak q9)⟩ bT.nil)
 refine cj (v:=(.slice (some ⟨s0,0,none⟩) 1 1)) (w':=H8) z (dH krA H9 J0) (wn [8,7,6,5] b (pL z z (·.bc2 z) (pF z z fI (pz (pz aT)))) (e1 11 z z fun w b=>wec call80 [k1,F6 k4,U6 18446744073709551615] z z ((kS k b.to0 q8).mono ?_)))
 rintro _ a36 ⟨a37,J1,rfl,e2,s1,b⟩
 refine ⟨_,z,?_⟩
 replace b:=b.of0
 replace k:=k.mono (ro_le e2)
 replace t:=t.mono (ro_le e2)
 replace u:=u.mono (ro_le e2)
 replace x:=x.mono (ro_le e2)
 replace y:=y.trans e2
 refine w0n b (e1 12 z z fun w b=>?_)
 obtain ⟨s2,J2,J3,J4,b⟩:=b.lits (E:=aK) (xs:=[c3]) [[.bool c3.Has,J1]] 61 1 z (bT.cons ⟨_,z,s1,oS (ak s1)⟩ bT.nil)
 refine cj (v:=(.slice (some ⟨s2,0,none⟩) 1 1)) (w':=J2) z (dH krA J3 J4) (w0n b (e1 13 z z fun w b=>?_))
 replace b:=b.ah
 obtain ⟨a38,s3,b⟩:=b.cz
 replace b:=b.ah
 obtain ⟨a39,s4,b⟩:=b.cz
 obtain ⟨a40,J5,c⟩:=bn c
 refine wec call78 [(.slice (some ⟨s0,0,none⟩) 1 1),(.slice (some ⟨s2,0,none⟩) 1 1)] z z (kcO (fE (b.tg s3) (b.jA s4) b.to0 J5) fun a41 b=>?_)
 replace b:=(b.ah.bo s3).ah.bo s4
 refine w0n b (sb 14 z z (bt ?_))
 intro w b
 refine ⟨z,?_⟩
 cases c
 exact ⟨_,_,h2,fy z,y,(aC (Pt f 0) a1 b.de.de.de.de ⟨z,k,t,u,x⟩).aA.cv⟩
}
 refine nx z z fun w b=>wec call80 [k1,F6 k4,U6 18446744073709551615] z z ((kS k b.to0 q8).mono ?_)
 rintro _ a42 ⟨a43,s5,rfl,e3,c4,b⟩
 refine ⟨_,z,?_⟩
 replace b:=b.of0
 replace k:=k.mono (ro_le e3)
 replace t:=t.mono (ro_le e3)
 replace u:=u.mono (ro_le e3)
 replace x:=x.mono (ro_le e3)
 replace y:=y.trans e3
 refine w0n b (tZ 4 12 krA ?_ ?_)
 {
 refine nx z z fun w b=>?_
 obtain ⟨a44,c5,s6,b⟩:=b.cO
 replace k:=k.mono (ro_le c5)
 replace t:=t.mono (ro_le c5)
 replace u:=u.mono (ro_le c5)
 replace x:=x.mono (ro_le c5)
 replace c4:=c4.mono (ro_le c5)
 replace y:=y.trans c5
 obtain ⟨s7,J6,J7,J8,b⟩:=b.lits (E:=aK) (xs:=[U]) [[.bool U.Has,h4]] 61 1 z (bT.cons ⟨_,z,s6,oS (ak s6)⟩ bT.nil)
 refine cj (v:=(.slice (some ⟨s7,0,none⟩) 1 1)) (w':=J6) z (dH krA J7 J8) (w0n b (e1 12 z z fun w b=>?_))
 obtain ⟨s8,J9,K0,K1,b⟩:=b.lits (E:=aK) (xs:=[c3]) [[.bool c3.Has,s5]] 61 1 z (bT.cons ⟨_,z,c4,oS (ak c4)⟩ bT.nil)
 refine cj (v:=(.slice (some ⟨s8,0,none⟩) 1 1)) (w':=J9) z (dH krA K0 K1) (w0n b (e1 13 z z fun w b=>?_))
 replace b:=b.ah
 obtain ⟨a45,s9,b⟩:=b.cz
 replace b:=b.ah
 obtain ⟨a46,t0,b⟩:=b.cz
 obtain ⟨a47,K2,c⟩:=bn c
 refine wec call78 [(.slice (some ⟨s7,0,none⟩) 1 1),(.slice (some ⟨s8,0,none⟩) 1 1)] z z (kcO (fE (b.tg s9) (b.jA t0) b.to0 K2) fun a48 b=>?_)
 replace b:=(b.ah.bo s9).ah.bo t0
 refine w0n b (sb 14 z z (bt ?_))
 intro w b
 refine ⟨z,?_⟩
 cases c
 exact ⟨_,_,h2,fy z,y,(aC (Pt f 0) a1 b.de.de.de.de ⟨z,k,t,u,x⟩).aA.cv⟩
}
 refine nx z z fun w b=>?_
 obtain ⟨t1,K3,K4,K5,b⟩:=b.lits (E:=aK) (xs:=[c3]) [[.bool c3.Has,s5]] 61 1 z (bT.cons ⟨_,z,c4,oS (ak c4)⟩ bT.nil)
 refine cj (v:=(.slice (some ⟨t1,0,none⟩) 1 1)) (w':=K3) z (dH krA K4 K5) (w0n b (e1 4 z z fun w b=>?_))
 replace b:=b.ah
 obtain ⟨a49,e4,t2,b⟩:=b.cO
 replace k:=k.mono (ro_le e4)
 replace t:=t.mono (ro_le e4)
 replace u:=u.mono (ro_le e4)
 replace x:=x.mono (ro_le e4)
 replace y:=y.trans e4
 obtain ⟨t3,K6,K7,K8,b⟩:=b.lits (E:=aK) (xs:=[U]) [[.bool U.Has,h4]] 61 1 z (bT.cons ⟨_,z,t2,oS (ak t2)⟩ bT.nil)
 refine cj (v:=(.slice (some ⟨t3,0,none⟩) 1 1)) (w':=K6) z (dH krA K7 K8) (w0n b (e1 13 z z fun w b=>?_))
 obtain ⟨a50,t4,b⟩:=b.cz
 replace b:=b.ah
 obtain ⟨a51,t5,b⟩:=b.cz
 obtain ⟨a52,K9,c⟩:=bn c
 refine wec call78 [(.slice (some ⟨t3,0,none⟩) 1 1),(.slice (some ⟨t1,0,none⟩) 1 1)] z z (kcO (fE (b.tg t4) (b.jA t5) b.to0 K9) fun a53 b=>?_)
 replace b:=(b.ah.bo t4).ah.bo t5
 refine w0n b (sb 14 z z (bt ?_))
 intro w b
 refine ⟨z,?_⟩
 cases c
 exact ⟨_,_,h2,fy z,y,(aC (Pt f 0) a1 b.de.de.de.de ⟨z,k,t,u,x⟩).aA.cv⟩
}
 rintro _ a54 ⟨h3,k3,c,⟨a55,rfl⟩,L0,b⟩
 dsimp only [ss] at c
 replace c2:=c2.trans L0
 refine tn (bw c z ?_ ?_)
 {
 intro L1 c
 cases c
}
 refine fun L1 c=>al (tn (ww (mi z (nt (au ?_)))))
 obtain ⟨L2,c⟩:=aS c
 refine bg (fun n a w=>∃ (c6:HL) (K:Int),cU (mE A a0 a1) n K=some o8∧fz 267 [0,1,11,12] [p0,Pt f 0,I6 A,U6 K] a∧h3.le c6∧St w0 w c6 [cX aM p0 a0,bm (Pt f 0) a1] R) L2 ⟨_,0,c,fy z,lr,b⟩ ?_
 rintro a56 _ a57 ⟨c6,K,c,⟨a58,rfl⟩,h5,b⟩
 obtain ⟨a59,t6,rfl,c,t7⟩:=aU c
 dsimp only [mE] at c
 replace c2:=c2.trans h5
 refine aj (ww (mi z (mb z (nt (bw c z ?_ ?_)))))
 {
 refine fun L3 c=>al (tn (aj (au (ww (mv (p0) z (mi z (bk c fun L4 L5 c=>wc call90 [I6 A] z z z (kcO (oq b.to0 L5) fun a60 b=>mi z (bk c fun m L6 c=>wc call25 [p0,F6 L4,U6 K] z z z (kdJ (yu b.to1 L6) fun H a61 b=>mv (.tuple #[.agg #[.bool m.1.Has,H],I6 m.2]) z (mv (.agg #[.bool m.1.Has,H]) z (mi z ?_))))))))))))
 obtain ⟨t8,a62,L7,L8,b⟩:=b.box [.bool false,Zs] 61
 refine wa L7 L8 (bxk b z sI (oC z (oC (oS b.sv1) oN)) fun a63 b=>mi z (nt (ww (mi z (nt ?_)))))
 obtain ⟨a64,c,k5⟩:=bn c
 refine cR (fun a w=>∃ (k6:Int),(pY m A a1 K) k6=some t6∧fz 267 [0,1,11,12,13,14,15] [p0,Pt f 0,I6 A,U6 K,Pt t8 0,I6 m.2,I6 k6] a∧St w0 w c6 [cX aM p0 a0,bm (Pt f 0) a1,cells t8 [.bool m.1.Has,H],bp (cr .u8) H m.1.Val] R) ?_ ?_
 {
 refine ww (mi z (mp z ?_))
 obtain ⟨a65,a66,a67,a68,a69,a70,a71,a72,⟨k7,k8,k9,l0,l1⟩,L9⟩:=bS b.aA
 replace k7:=ez k7
 subst k7
 have b:=L9
 refine mp z (mF z fI (mL z (b.bc0 z) (mb z (nt (bw c z ?_ ?_)))))
 {
 refine fun M0 c=>wrl (mi z (nt ?_))
 cases c
 exact ⟨_,k5,fy z,(aC (Pt f 0) a1 b.aA.aA.aA.aA ⟨z,k8,k9,l0,l1⟩).aD.aD.aD.aA.eQ⟩
}
 refine fun M0 c=>ww (mi z (mi z (mp z (mp z (mF z fI (mL z (b.bc0 z) (mb z (nt (bw c z ?_ ?_)))))))))
 {
 refine fun M1 c=>wrl (mi z (nt ?_))
 cases c
 exact ⟨_,k5,fy z,(aC (Pt f 0) a1 b.aA.aA.aA.aA ⟨z,k8,k9,l0,l1⟩).aD.aD.aD.aA.eQ⟩
}
 refine fun M1 c=>al (tn ?_)
 cases c
 exact ⟨_,k5,fy z,(aC (Pt f 0) a1 b.aA.aA.aA.aA ⟨z,k8,k9,l0,l1⟩).aD.aD.aD.aA.eQ⟩
}
 rintro _ a73 ⟨k6,c,⟨a74,rfl⟩,b⟩
 dsimp only [pY] at c
 refine aj ?_
 obtain ⟨a75,l2,a76,a77,a78,a79,a80,a81,⟨l3,j,o,p,q⟩,M2⟩:=bS b.ah
 replace l3:=ez l3
 subst l3
 have b:=M2
 obtain ⟨a82,c,e5⟩:=bn c
 refine vy (fun a w=>∃ (l4:HL) (l5:Bool),(pZ K) l5=some t6∧fz 267 [0,1,11,12,164] [p0,Pt f 0,I6 A,U6 K,.bool l5] a∧c6.le l4∧St w0 w l4 [cX aM p0 a0,bm (Pt f 0) a1] R) ?_ ?_
 {
 have s:=HL.le.refl c6
 refine rg b 22 [0,0,3,7,15,31,63,127,255,127,639,1663,3711,127,8319,127,65151,130687,262143,524287,1048575,2097151] [] mixed (si 0 z z (si 1 z z (sb 2 z z (sb 3 z z (bs c ?_ ?_)))))
 {
 intro F c
 cases c
}
 refine fun F c=>sgz (I6 _) 4 z F z (sgz (.bool _) 5 z F z (sgz (.bool _) 6 z F z (bs c ?_ ?_)))
 {
 refine fun d c=>sg _ 7 z d (fun w b=>xN (cs:=[.bool m.1.Has,H]) z (b.CT 0 z)) (sgz (Pt _ _) 9 z d z (sgz (Pt _ _) 10 z d z (sg _ 11 z d (fun w b=>xF z fI z) (sg _ 12 z d (fun w b=>xL z (b.bc0 z)) (sgz (I6 _) 13 z d z (sgz (U6 _) 15 z d z (bk c fun l6 t9 c=>tZ 8 14 krA ?_ ?_)))))))
 {
 refine nxe [14,16,17,18,19,20,21] krA z ((av z z z (cvb d)).trans z) ?_
 clear b
 intro w b
 replace b:=b.de
 obtain ⟨a83,e6,u0,b⟩:=b.cO
 replace j:=j.mono (ro_le e6)
 replace o:=o.mono (ro_le e6)
 replace p:=p.mono (ro_le e6)
 replace q:=q.mono (ro_le e6)
 replace s:=s.trans e6
 obtain ⟨u1,M3,M4,M5,b⟩:=b.lits (E:=aK) (xs:=[m.1]) [[.bool m.1.Has,H]] 61 1 z (bT.cons ⟨_,z,u0,oS (ak u0)⟩ bT.nil)
 refine cj (v:=(.slice (some ⟨u1,0,none⟩) 1 1)) (w':=M3) z (dH krA M4 M5) (wn [15,13,12,11,10,9] b (dx z (di ((av z z z (cvb d)).trans z) (fun w b=>z)) (dx z (di ((av z z z (cvb d)).trans z) (fun w b=>z)) (dx z (di ((av z z z (cvb d)).trans z) (fun w b=>xL z (b.bc1 z))) (dx z (di ((av z z z (cvb d)).trans z) (fun w b=>xF z fI z)) (dx z (di ((av z z z (cvb d)).trans z) (fun w b=>z)) (dx z (di ((av z z z (cvb d)).trans z) (fun w b=>z)) aT)))))) (iN 14 krA (nxe [16,17,18,19,20,21] krA z ((av z z z (cvb d)).trans z) ?_)))
 clear b
 refine fun w b=>wec call90 [I6 A] z z (kcO (oq b.to0 t9) fun a84 b=>wn [15,12,11,10,9] b (dx z (di ((av z z z (cvb d)).trans z) (fun w b=>z)) (dx z (di ((av z z z (cvb d)).trans z) (fun w b=>xL z (b.bc1 z))) (dx z (di ((av z z z (cvb d)).trans z) (fun w b=>xF z fI z)) (dx z (di ((av z z z (cvb d)).trans z) (fun w b=>z)) (dx z (di ((av z z z (cvb d)).trans z) (fun w b=>z)) aT))))) (iN 16 krA (nxe [17,18,19,20,21] krA z ((av z z z (cvb d)).trans z) ?_)))
 clear b
 intro w b
 obtain ⟨u2,M6,c⟩:=bn c
 refine wec call80 [l2,F6 l6,U6 K] z z ((kS j b.to0 M6).mono ?_)
 rintro _ a85 ⟨a86,M7,rfl,e7,u3,b⟩
 refine ⟨_,z,?_⟩
 replace b:=b.of0
 replace j:=j.mono (ro_le e7)
 replace o:=o.mono (ro_le e7)
 replace p:=p.mono (ro_le e7)
 replace q:=q.mono (ro_le e7)
 replace s:=s.trans e7
 refine w0n b (iN 17 krA (nxe [18,19,20,21] krA z ((av z z z (cvb d)).trans z) ?_))
 clear b
 intro w b
 obtain ⟨u4,M8,M9,N0,b⟩:=b.lits (E:=aK) (xs:=[u2]) [[.bool u2.Has,M7]] 61 1 z (bT.cons ⟨_,z,u3,oS (ak u3)⟩ bT.nil)
 refine cj (v:=(.slice (some ⟨u4,0,none⟩) 1 1)) (w':=M8) z (dH krA M9 N0) (w0n b (iN 18 krA (nxe [19,20,21] krA z ((av z z z (cvb d)).trans z) ?_)))
 clear b
 intro w b
 replace b:=b.ah
 obtain ⟨a87,u5,b⟩:=b.cz
 replace b:=b.ah
 obtain ⟨a88,u6,b⟩:=b.cz
 obtain ⟨a89,N1,c⟩:=bn c
 refine wec call78 [(.slice (some ⟨u1,0,none⟩) 1 1),(.slice (some ⟨u4,0,none⟩) 1 1)] z z (kcO (fE (b.tg u5) (b.jA u6) b.to0 N1) fun a90 b=>?_)
 replace b:=(b.ah.bo u5).ah.bo u6
 refine w0n b (sgz (.bool _) 19 z d z (sg (.bool _) 20 z F (fun w b=>bi d z z) (sh (.bool _) 21 z (fun w b=>aL F z z) (bt ?_))))
 intro w b
 refine ⟨z,?_⟩
 cases c
 exact ⟨_,_,e5,fy z,s,(aC (Pt f 0) a1 b.bq.bq.bq.bq ⟨z,j,o,p,q⟩).aA.cv⟩
}
 refine nxe [8,16,17,18,19,20,21] krA z ((av z z z (cvb d)).trans z) ?_
 clear b
 refine fun w b=>wec call90 [I6 A] z z (kcO (oq b.to0 t9) fun a91 b=>wn [15,12,11,10,9,7] b (dx z (di ((av z z z (cvb d)).trans z) (fun w b=>z)) (dx z (di ((av z z z (cvb d)).trans z) (fun w b=>xL z (b.bc0 z))) (dx z (di ((av z z z (cvb d)).trans z) (fun w b=>xF z fI z)) (dx z (di ((av z z z (cvb d)).trans z) (fun w b=>z)) (dx z (di ((av z z z (cvb d)).trans z) (fun w b=>z)) (dx z (di ((av z z z (cvb d)).trans z) (fun w b=>xN (cs:=[.bool m.1.Has,H]) z (b.CT 0 z))) aT)))))) ?_)
 refine bk c fun c7 u7 c=>tZ 8 16 krA ?_ ?_
 {
 refine nxe [16,17,18,19,20,21] krA z ((av z z z (cvb d)).trans z) ?_
 clear b
 intro w b
 replace b:=b.de
 obtain ⟨a92,e8,u9,b⟩:=b.cO
 replace j:=j.mono (ro_le e8)
 replace o:=o.mono (ro_le e8)
 replace p:=p.mono (ro_le e8)
 replace q:=q.mono (ro_le e8)
 replace s:=s.trans e8
 obtain ⟨v0,N2,N3,N4,b⟩:=b.lits (E:=aK) (xs:=[m.1]) [[.bool m.1.Has,H]] 61 1 z (bT.cons ⟨_,z,u9,oS (ak u9)⟩ bT.nil)
 refine cj (v:=(.slice (some ⟨v0,0,none⟩) 1 1)) (w':=N2) z (dH krA N3 N4) (wn [15,12,11,10,9] b (dx z (di ((av z z z (cvb d)).trans z) (fun w b=>z)) (dx z (di ((av z z z (cvb d)).trans z) (fun w b=>xL z (b.bc1 z))) (dx z (di ((av z z z (cvb d)).trans z) (fun w b=>xF z fI z)) (dx z (di ((av z z z (cvb d)).trans z) (fun w b=>z)) (dx z (di ((av z z z (cvb d)).trans z) (fun w b=>z)) aT))))) (iN 16 krA (nxe [17,18,19,20,21] krA z ((av z z z (cvb d)).trans z) ?_)))
 clear b
 refine fun w b=>wec call80 [l2,F6 l6,U6 K] z z ((kS j b.to0 u7).mono ?_)
 rintro _ a93 ⟨a94,N5,rfl,e9,v1,b⟩
 refine ⟨_,z,?_⟩
 replace b:=b.of0
 replace j:=j.mono (ro_le e9)
 replace o:=o.mono (ro_le e9)
 replace p:=p.mono (ro_le e9)
 replace q:=q.mono (ro_le e9)
 replace s:=s.trans e9
 refine w0n b (iN 17 krA (nxe [18,19,20,21] krA z ((av z z z (cvb d)).trans z) ?_))
 clear b
 intro w b
 obtain ⟨v2,N6,N7,N8,b⟩:=b.lits (E:=aK) (xs:=[c7]) [[.bool c7.Has,N5]] 61 1 z (bT.cons ⟨_,z,v1,oS (ak v1)⟩ bT.nil)
 refine cj (v:=(.slice (some ⟨v2,0,none⟩) 1 1)) (w':=N6) z (dH krA N7 N8) (w0n b (iN 18 krA (nxe [19,20,21] krA z ((av z z z (cvb d)).trans z) ?_)))
 clear b
 intro w b
 replace b:=b.ah
 obtain ⟨a95,v3,b⟩:=b.cz
 replace b:=b.ah
 obtain ⟨a96,v4,b⟩:=b.cz
 obtain ⟨a97,N9,c⟩:=bn c
 refine wec call78 [(.slice (some ⟨v0,0,none⟩) 1 1),(.slice (some ⟨v2,0,none⟩) 1 1)] z z (kcO (fE (b.tg v3) (b.jA v4) b.to0 N9) fun a98 b=>?_)
 replace b:=(b.ah.bo v3).ah.bo v4
 refine w0n b (sgz (.bool _) 19 z d z (sg (.bool _) 20 z F (fun w b=>bi d z z) (sh (.bool _) 21 z (fun w b=>aL F z z) (bt ?_))))
 intro w b
 refine ⟨z,?_⟩
 cases c
 exact ⟨_,_,e5,fy z,s,(aC (Pt f 0) a1 b.bq.bq.bq.bq ⟨z,j,o,p,q⟩).aA.cv⟩
}
 refine nxe [8,17,18,19,20,21] krA z ((av z z z (cvb d)).trans z) ?_
 clear b
 refine fun w b=>wec call80 [l2,F6 l6,U6 K] z z ((kS j b.to0 u7).mono ?_)
 rintro _ a99 ⟨b00,v5,rfl,f0,c8,b⟩
 refine ⟨_,z,?_⟩
 replace b:=b.of0
 replace j:=j.mono (ro_le f0)
 replace o:=o.mono (ro_le f0)
 replace p:=p.mono (ro_le f0)
 replace q:=q.mono (ro_le f0)
 replace s:=s.trans f0
 refine wn [7] b (dx z (di ((av z z z (cvb d)).trans z) (fun w b=>xN (cs:=[.bool m.1.Has,H]) z (b.CT 0 z))) aT) (tZ 8 17 krA ?_ ?_)
 {
 refine nxe [17,18,19,20,21] krA z ((av z z z (cvb d)).trans z) ?_
 clear b
 intro w b
 replace b:=b.de
 obtain ⟨b01,c9,v6,b⟩:=b.cO
 replace j:=j.mono (ro_le c9)
 replace o:=o.mono (ro_le c9)
 replace p:=p.mono (ro_le c9)
 replace q:=q.mono (ro_le c9)
 replace c8:=c8.mono (ro_le c9)
 replace s:=s.trans c9
 obtain ⟨v7,O0,O1,O2,b⟩:=b.lits (E:=aK) (xs:=[m.1]) [[.bool m.1.Has,H]] 61 1 z (bT.cons ⟨_,z,v6,oS (ak v6)⟩ bT.nil)
 refine cj (v:=(.slice (some ⟨v7,0,none⟩) 1 1)) (w':=O0) z (dH krA O1 O2) (w0n b (iN 17 krA (nxe [18,19,20,21] krA z ((av z z z (cvb d)).trans z) ?_)))
 clear b
 intro w b
 obtain ⟨v8,O3,O4,O5,b⟩:=b.lits (E:=aK) (xs:=[c7]) [[.bool c7.Has,v5]] 61 1 z (bT.cons ⟨_,z,c8,oS (ak c8)⟩ bT.nil)
 refine cj (v:=(.slice (some ⟨v8,0,none⟩) 1 1)) (w':=O3) z (dH krA O4 O5) (w0n b (iN 18 krA (nxe [19,20,21] krA z ((av z z z (cvb d)).trans z) ?_)))
 clear b
 intro w b
 replace b:=b.ah
 obtain ⟨b02,v9,b⟩:=b.cz
 replace b:=b.ah
 obtain ⟨b03,x0,b⟩:=b.cz
 obtain ⟨b04,O6,c⟩:=bn c
 refine wec call78 [(.slice (some ⟨v7,0,none⟩) 1 1),(.slice (some ⟨v8,0,none⟩) 1 1)] z z (kcO (fE (b.tg v9) (b.jA x0) b.to0 O6) fun b05 b=>?_)
 replace b:=(b.ah.bo v9).ah.bo x0
 refine w0n b (sgz (.bool _) 19 z d z (sg (.bool _) 20 z F (fun w b=>bi d z z) (sh (.bool _) 21 z (fun w b=>aL F z z) (bt ?_))))
 intro w b
 refine ⟨z,?_⟩
 cases c
 exact ⟨_,_,e5,fy z,s,(aC (Pt f 0) a1 b.bq.bq.bq.bq ⟨z,j,o,p,q⟩).aA.cv⟩
}
 refine nxe [8,18,19,20,21] krA z ((av z z z (cvb d)).trans z) ?_
 clear b
 intro w b
 obtain ⟨x1,O7,O8,O9,b⟩:=b.lits (E:=aK) (xs:=[c7]) [[.bool c7.Has,v5]] 61 1 z (bT.cons ⟨_,z,c8,oS (ak c8)⟩ bT.nil)
 refine cj (v:=(.slice (some ⟨x1,0,none⟩) 1 1)) (w':=O7) z (dH krA O8 O9) (wn [7] b (dx z (di ((av z z z (cvb d)).trans z) (fun w b=>xN (cs:=[.bool m.1.Has,H]) z (b.Ji 0 z))) aT) (iN 8 krA (nxe [18,19,20,21] krA z ((av z z z (cvb d)).trans z) ?_)))
 clear b
 intro w b
 replace b:=b.aW
 obtain ⟨b06,f1,x2,b⟩:=b.cO
 replace j:=j.mono (ro_le f1)
 replace o:=o.mono (ro_le f1)
 replace p:=p.mono (ro_le f1)
 replace q:=q.mono (ro_le f1)
 replace s:=s.trans f1
 obtain ⟨x3,P0,P1,P2,b⟩:=b.lits (E:=aK) (xs:=[m.1]) [[.bool m.1.Has,H]] 61 1 z (bT.cons ⟨_,z,x2,oS (ak x2)⟩ bT.nil)
 refine cj (v:=(.slice (some ⟨x3,0,none⟩) 1 1)) (w':=P0) z (dH krA P1 P2) (w0n b (iN 18 krA (nxe [19,20,21] krA z ((av z z z (cvb d)).trans z) ?_)))
 clear b
 intro w b
 obtain ⟨b07,x4,b⟩:=b.cz
 replace b:=b.ah
 obtain ⟨b08,x5,b⟩:=b.cz
 obtain ⟨b09,P3,c⟩:=bn c
 refine wec call78 [(.slice (some ⟨x3,0,none⟩) 1 1),(.slice (some ⟨x1,0,none⟩) 1 1)] z z (kcO (fE (b.tg x4) (b.jA x5) b.to0 P3) fun b10 b=>?_)
 replace b:=(b.ah.bo x4).ah.bo x5
 refine w0n b (sgz (.bool _) 19 z d z (sg (.bool _) 20 z F (fun w b=>bi d z z) (sh (.bool _) 21 z (fun w b=>aL F z z) (bt ?_))))
 intro w b
 refine ⟨z,?_⟩
 cases c
 exact ⟨_,_,e5,fy z,s,(aC (Pt f 0) a1 b.bq.bq.bq.bq ⟨z,j,o,p,q⟩).aA.cv⟩
}
 refine fun d c=>so 7 z d (so 8 z d (so 9 z d (so 10 z d (so 11 z d (so 12 z d (so 13 z d (so 14 z d (so 15 z d (so 16 z d (so 17 z d (so 18 z d (so 19 z d (sg (.bool _) 20 z F (fun w b=>aL d z z) (sh (.bool _) 21 z (fun w b=>aL F z z) (bt ?_)))))))))))))))
 intro w b
 refine ⟨z,?_⟩
 cases c
 exact ⟨_,false,e5,fy z,s,(aC (Pt f 0) a1 b.aA.aA.aA.aA ⟨z,j,o,p,q⟩).ah.cv⟩
}
 rintro _ b11 ⟨l4,l5,c,⟨b12,rfl⟩,P4,b⟩
 dsimp only [pZ] at c
 replace h5:=h5.trans P4
 refine tn (bw c z ?_ ?_)
 {
 intro P5 c
 cases c
}
 refine fun P5 c=>al (bJ (tn (wrl (mi z (mi z (mi z (nt ?_)))))))
 cases c
 exact ⟨_,nls,_,_,t7,fy z,h5,b.ah.ah.cv⟩
}
 refine fun L3 c=>bH (aQ (aQ ?_))
 replace c:=bz c t7
 refine cZ (bJ (tn (wrl (mi z (mi z (mi z (nt ?_)))))))
 cases c
 exact ⟨_,nls,_,_,o9,fy z,c2,b.ah.ah.cv⟩
}
 refine fun G4 c=>bH (aQ (aQ ?_))
 replace c:=bz c o9
 refine cZ (tn ?_)
 cases c
 exact ⟨_,G2,fy z,k0,b.ah.ah.cv⟩
}
 rintro _ b13 ⟨h1,c,⟨b14,rfl⟩,P6,b⟩
 dsimp only [uD] at c
 replace b0:=b0.trans P6
 refine aj (ww (mi z (nt (au ?_))))
 obtain ⟨P7,c⟩:=aS c
 refine bg (fun n a w=>∃ (l7:HL) (i:Int),cU (ox a0 a1) n i=some r∧fz 267 [0,1,16] [p0,Pt f 0,I6 i] a∧h1.le l7∧St w0 w l7 [cX aM p0 a0,bm (Pt f 0) a1] R) P7 ⟨_,0,c,fy z,lr,b⟩ ?_
 rintro b15 _ b16 ⟨l7,i,c,⟨b17,rfl⟩,J,b⟩
 obtain ⟨b18,x6,rfl,c,x7⟩:=aU c
 dsimp only [ox] at c
 replace b0:=b0.trans J
 refine aj (ww (mi z (mb z (nt (bw c z ?_ ?_)))))
 {
 refine fun P8 c=>al (tn (aj (au (aj (aj ?_)))))
 obtain ⟨b19,b20,b21,b22,b23,b24,b25,b26,⟨l8,P9,Q0,Q1,Q2⟩,Q3⟩:=bS b.ah
 replace l8:=ez l8
 subst l8
 have b:=Q3
 refine rg b 23 [0,0,3,0,0,31,63,127,255,511,511,1535,4095,511,8703,25087,57855,511,131583,524287,1048575,2097151,4194303] [] mixed (sz (p0) 0 z z (si 1 z z (sp 3 z z (si 4 z z (e1 2 z z fun w b=>?_)))))
 replace b:=b.bj
 obtain ⟨b27,Q4,c⟩:=bn c
 refine wec call15 [p0,I6 i] z z (kdJ (yw b.to1 Q4) fun Q5 b28 b=>wn [4,3] b (pz (pz aT)) (e1 5 z z fun w b=>?_))
 replace b:=aC (Pt f 0) a1 b.bq.bq.bq.bq ⟨z,P9,Q0,Q1,Q2⟩
 obtain ⟨b29,Q6,c⟩:=bn c
 refine wec call92 [Pt f 0,I6 i] z z (kdJ (yo b.to1 Q6) fun Q7 b30 b=>w0n b (e1 6 z z fun w b=>?_))
 replace b:=b.aD
 obtain ⟨b31,Q8,l9,b⟩:=b.cO
 replace J:=J.trans Q8
 obtain ⟨b32,x8,Q9,b⟩:=b.cO
 replace l9:=l9.mono (ro_le x8)
 replace J:=J.trans x8
 obtain ⟨b33,S0,c⟩:=bn c
 refine wec call91 [Q5,Q7] z z (kca (xI l9 Q9 b.to0 S0) fun b34 b=>?_)
 obtain ⟨b35,b36,b37,x9,b38,b39,b40,b41,⟨m0,V,W,N,X⟩,S1⟩:=bS b.of0
 replace m0:=ez m0
 subst m0
 have b:=S1
 refine w0n b (sb 7 z z (sb 8 z z (bs c ?_ ?_)))
 {
 intro l c
 cases c
}
 refine fun l c=>sgz p0 9 z l z (sgz (I6 _) 10 z l z (sgk (.int .u64 (u64.wrap i)) 11 z l (sgz (Pt _ _) 13 z l z (sgz (Pt _ _) 14 z l z (sg _ 15 z l (fun w b=>xF z fI z) (sg _ 16 z l (fun w b=>xL z (b.bc0 z)) (sgz (I6 _) 17 z l z (sgk (.int .u64 (u64.wrap i)) 18 z l (iN 12 krA (nxe [19,20,21,22] krA z ((av z z z (cvb l)).trans z) ?_))))))))))
 clear b
 intro w b
 replace b:=b.bj
 obtain ⟨y0,S2,c⟩:=bn c
 refine wec call22 [p0,U6 (u64.wrap i)] z z (kcI (xJ b.to1 S2) fun b42 b=>wn [18,17,16,15,14,13] b (dx z (di ((av z z z (cvb l)).trans z) (fun w b=>by kernel_rfl)) (dx z (di ((av z z z (cvb l)).trans z) (fun w b=>z)) (dx z (di ((av z z z (cvb l)).trans z) (fun w b=>xL z (b.bc1 z))) (dx z (di ((av z z z (cvb l)).trans z) (fun w b=>xF z fI z)) (dx z (di ((av z z z (cvb l)).trans z) (fun w b=>z)) (dx z (di ((av z z z (cvb l)).trans z) (fun w b=>z)) aT)))))) (iN 19 krA (nxe [20,21,22] krA z ((av z z z (cvb l)).trans z) ?_)))
 clear b
 intro w b
 obtain ⟨m1,S3,c⟩:=bn c
 refine wec call93 [x9,U6 (u64.wrap i)] z z ((pp N b.to0 S3).mono ?_)
 rintro _ b43 ⟨b44,b45,b46,rfl,f2,S4,S5,b⟩
 refine ⟨_,z,?_⟩
 replace b:=b.of0
 replace V:=V.mono (ro_le f2)
 replace W:=W.mono (ro_le f2)
 replace N:=N.mono (ro_le f2)
 replace X:=X.mono (ro_le f2)
 replace J:=J.trans f2
 refine w0n b (BE (v:=.int .u64 m1.Seq) 20 [21,22] krA rfl rfl (di ((av rfl rfl rfl (cvb l)).trans rfl) (fun w b=>by obtain ⟨_,_,hv_,_⟩:=(ak S5); rw [hv_]; obtain ⟨_,_,hv_,_⟩:=(ak S4); rw [hv_]; kernel_rfl)) (BE (v:=.bool (y0 !=m1.Seq)) 21 [22] krA rfl rfl (di ((av rfl rfl rfl (cvb l)).trans rfl) (fun w b=>rfl)) (wsr (.bool (y0 !=m1.Seq)) 22 rfl rfl rfl krA (fun w b=>aL l rfl rfl) (bt ?_))))
 refine fun w b=>tn (bw c z ?_ ?_)
 {
 intro S6 c
 cases c
}
 refine fun S6 c=>al (tn (ww (mp z (mp z (mF z fI (mL z (b.bc1 z) (mi z (mk (.int .u64 (u64.wrap i)) (bk c fun Y S7 c=>wc call93 [x9,U6 (u64.wrap i)] z z z ((pp N b.to0 S7).mono ?_))))))))))
 rintro _ b47 ⟨b48,y1,y2,rfl,f3,h6,h7,b⟩
 refine ⟨_,z,?_⟩
 replace b:=b.of0
 replace V:=V.mono (ro_le f3)
 replace W:=W.mono (ro_le f3)
 replace N:=N.mono (ro_le f3)
 replace X:=X.mono (ro_le f3)
 replace J:=J.trans f3
 obtain ⟨b49,b50,S8,S9,b⟩:=b.box [Zu,Zu,Zi,Zu,Zu,Zs,Zs] 164
 refine wa S8 S9 (bxk b z sI (oJ 5 z (oC (oS (ak h6)) (oC (oS (ak h7)) oN))) fun b51 b=>nt (ww (mv (p0) z (mi z (mk (.int .u64 (u64.wrap i)) (mF z fI (mL z (b.bc0 z) (mk (.agg #[U6 (u64.wrap i),U6 Y.Seq]) ?_))))))))
 replace b:=b.ah
 obtain ⟨O,T0,c⟩:=bn c
 refine wc call37 [p0,.agg #[U6 (u64.wrap i),U6 Y.Seq]] z z z ((we b.to1 T0).mono ?_)
 rintro _ b52 ⟨h8,m2,m3,rfl,b2,y3,y4,b⟩
 refine ⟨_,z,?_⟩
 replace b:=b.of1
 replace V:=V.mono (ro_le b2)
 replace W:=W.mono (ro_le b2)
 replace N:=N.mono (ro_le b2)
 replace X:=X.mono (ro_le b2)
 replace h6:=h6.mono (ro_le b2)
 replace h7:=h7.mono (ro_le b2)
 replace J:=J.trans b2
 refine mv (.tuple #[.agg #[I6 O.1.E,U6 O.1.ae,U6 O.1.Index,m2,m3],I6 O.2]) z (mv (.agg #[I6 O.1.E,U6 O.1.ae,U6 O.1.Index,m2,m3]) z (mi z ?_))
 obtain ⟨b53,b54,T1,T2,b⟩:=b.box [Zi,Zu,Zu,Zs,Zs] 33
 refine wa T1 T2 (bxk b z sI (oJ 3 z (oC (oS (ak y3)) (oC (oS (ak y4)) oN))) fun b55 b=>mi z (nt ?_))
 obtain ⟨b56,c,y5⟩:=ee c
 refine cR (fun a w =>(qZ a0 i a1) ()=some x6∧fz 267 [0,1,16] [p0,Pt f 0,I6 i] a∧St w0 w h8 [cX aM p0 a0,bm (Pt f 0) a1] R) ?_ ?_
 {
 refine ww (mF z fI (mL z (b.bc2 z) (mb z (mb z (bs c ?_ ?_)))))
 {
 refine fun L c=>gi L z (gb L z (gb L z (bs c ?_ ?_)))
 {
 intro b3 c
 cases c
}
 refine fun b3 c=>gg b3 (xN z (b.fm 0 tz)) (gg b3 (xF z fI z) (gg b3 (xN (cs:=[I6 Y.R.E,U6 Y.R.ae,U6 Y.R.Index,y1,y2]) z (b.ta 2 z)) (bk c fun b57 T3 c=>dh ((av z z z (cvb b3)).trans z) z (gO call32 z (vs:=[.agg #[I6 O.1.E,U6 O.1.ae,U6 O.1.Index,m2,m3],.agg #[I6 Y.R.E,U6 Y.R.ae,U6 Y.R.Index,y1,y2]]) z) (kcO (tl (y3.mono cS) (y4.mono cS) (h6.mono cS) (h7.mono cS) b.to0 T3) fun b58 b=>gb b3 z (gb L (aL b3 z z) (mb (bi L z z) (nt (bw c z ?_ ?_))))))))
 {
 intro T4 c
 cases c
}
 refine fun T4 c=>al (tn ?_)
 cases c
 exact ⟨y5,fy z,(aC (Pt f 0) a1 b.de.de.de.de ⟨z,V,W,N,X⟩).aD.cv⟩
}
 refine fun L c=>go L (go L (go L (gu (gu (gu (gu (gu (go L (mb (aL L z z) (nt (cJ z (al (tn ?_)))))))))))))
 cases c
 exact ⟨y5,fy z,(aC (Pt f 0) a1 b.de.de.de.de ⟨z,V,W,N,X⟩).aD.cv⟩
}
 rintro _ b59 ⟨c,⟨b60,rfl⟩,b⟩
 dsimp only [qZ] at c
 refine ww (mi z (nt (au ?_)))
 obtain ⟨T5,c⟩:=aS c
 refine bg (fun n a w=>∃ (Q:Int),cU (li a0 i a1) n Q=some x6∧fz 267 [0,1,16,20] [p0,Pt f 0,I6 i,U6 Q] a∧St w0 w h8 [cX aM p0 a0,bm (Pt f 0) a1] R) T5 ⟨0,c,fy z,b⟩ ?_
 rintro b61 _ b62 ⟨Q,c,⟨b63,rfl⟩,b⟩
 obtain ⟨b64,y6,rfl,c,m4⟩:=aU c
 dsimp only [li] at c
 refine aj (ww (mi z (mb z (nt (bw c z ?_ ?_)))))
 {
 refine fun T6 c=>al (tn (aj (au (ww (mv (p0) z (mi z (mk (.int .u64 (u64.wrap i)) (mi z (bk c fun g T7 c=>wc call94 [p0,U6 (u64.wrap i),U6 Q] z z z (kcI (xO b.to1 T7) fun b65 b=>mv (.tuple #[.agg #[U6 g.1.ID,I6 g.1.dn,I6 g.1.To,F6 g.1.Lo,F6 g.1.Hi,U6 g.1.Authority,I6 g.1.cx],I6 g.2]) z (mv (.agg #[U6 g.1.ID,I6 g.1.dn,I6 g.1.To,F6 g.1.Lo,F6 g.1.Hi,U6 g.1.Authority,I6 g.1.cx]) z (mi z ?_))))))))))))
 obtain ⟨h9,b66,T8,T9,b⟩:=b.box [Zu,Zi,Zi,Zf,Zf,Zu,Zi] 39
 refine wa T8 T9 (bxk b z sI (oJ 7 z oN) fun b67 b=>mi z (nt (ww (mp z ?_))))
 obtain ⟨b68,b69,b70,b71,V0,b72,b73,b74,⟨m5,y7,y8,y9,m6⟩,V1⟩:=bS b.aD
 replace m5:=ez m5
 subst m5
 have b:=V1
 refine mp z (mF z fI (mL z (b.bc0 z) (mi z (mk (.int .u64 (u64.wrap i)) (mi z (bk c fun h V2 c=>wc call95 [V0,U6 (u64.wrap i),U6 Q] z z z (kcO (Dc (m6.mono cS) b.to0 V2) fun b75 b=>mv (.tuple #[.agg #[U6 h.1.ID,I6 h.1.dn,I6 h.1.To,F6 h.1.Lo,F6 h.1.Hi,U6 h.1.Authority,I6 h.1.cx],.bool h.2]) z (mv (.agg #[U6 h.1.ID,I6 h.1.dn,I6 h.1.To,F6 h.1.Lo,F6 h.1.Hi,U6 h.1.Authority,I6 h.1.cx]) z (mb z ?_)))))))))
 obtain ⟨i0,b76,V3,V4,b⟩:=b.box [Zu,Zi,Zi,Zf,Zf,Zu,Zi] 39
 refine wa V3 V4 (bxk b z sI (oJ 7 z oN) fun b77 b=>mb z (nt (ww (mi z (nt ?_)))))
 obtain ⟨b78,c,A0⟩:=bn c
 refine cR (fun a w=>∃ (i1:Int),(nc Q a1 g h) i1=some y6∧fz 267 [0,1,16,20,21,22,23,25] [p0,Pt f 0,I6 i,U6 Q,Pt h9 0,I6 g.2,Pt i0 0,I6 i1] a∧St w0 w h8 [cX aM p0 a0,bm (Pt f 0) a1,cells h9 [U6 g.1.ID,I6 g.1.dn,I6 g.1.To,F6 g.1.Lo,F6 g.1.Hi,U6 g.1.Authority,I6 g.1.cx],cells i0 [U6 h.1.ID,I6 h.1.dn,I6 h.1.To,F6 h.1.Lo,F6 h.1.Hi,U6 h.1.Authority,I6 h.1.cx]] R) ?_ ?_
 {
 refine ww (mb z (mb z (nt (bw c z ?_ ?_))))
 {
 refine fun V5 c=>wrl (mi z (nt ?_))
 cases c
 exact ⟨_,A0,fy z,(aC (Pt f 0) a1 b.bj.bj.bj.bj ⟨z,y7,y8,y9,m6⟩).ah.aD.aD.aA.eQ⟩
}
 refine fun V5 c=>al (tn ?_)
 cases c
 exact ⟨_,A0,fy z,(aC (Pt f 0) a1 b.bj.bj.bj.bj ⟨z,y7,y8,y9,m6⟩).ah.aD.aD.aA.eQ⟩
}
 rintro _ b79 ⟨i1,c,⟨b80,rfl⟩,b⟩
 dsimp only [nc] at c
 obtain ⟨b81,c,A1⟩:=bn c
 refine cR (fun a w=>∃ (m7:Int),(mY g h Q) m7=some y6∧fz 267 [0,1,16,20,21,22,23,25] [p0,Pt f 0,I6 i,U6 Q,Pt h9 0,I6 g.2,Pt i0 0,I6 m7] a∧St w0 w h8 [cX aM p0 a0,bm (Pt f 0) a1,cells h9 [U6 g.1.ID,I6 g.1.dn,I6 g.1.To,F6 g.1.Lo,F6 g.1.Hi,U6 g.1.Authority,I6 g.1.cx],cells i0 [U6 h.1.ID,I6 h.1.dn,I6 h.1.To,F6 h.1.Lo,F6 h.1.Hi,U6 h.1.Authority,I6 h.1.cx]] R) ?_ ?_
 {
 refine ww (mi z (mp z ?_))
 obtain ⟨b82,b83,b84,b85,b86,b87,b88,b89,⟨m8,A2,A3,A4,A5⟩,V6⟩:=bS b.ah
 replace m8:=ez m8
 subst m8
 have b:=V6
 refine mp z (mF z fI (mL z (b.bc0 z) (mb z (nt (bw c z ?_ ?_)))))
 {
 refine fun V7 c=>wrl (mi z (nt ?_))
 cases c
 exact ⟨_,A1,fy z,(aC (Pt f 0) a1 b.aA.aA.aA.aA ⟨z,A2,A3,A4,A5⟩).aA.aA.aD.aA.eQ⟩
}
 refine fun V7 c=>al (tn ?_)
 cases c
 exact ⟨i1,A1,fy z,(aC (Pt f 0) a1 b.aA.aA.aA.aA ⟨z,A2,A3,A4,A5⟩).aA.aA.aD.aA.eQ⟩
}
 rintro _ b90 ⟨m7,c,⟨b91,rfl⟩,b⟩
 dsimp only [mY] at c
 refine ww (mi z (mi z (mb z (mb z (bs c ?_ ?_)))))
 {
 intro Z c
 cases c
}
 refine fun Z c=>gi Z z (gb Z z (gb Z z (bs c ?_ ?_)))
 {
 refine fun M c=>gg M (xN z (b.ta 0 tz)) (gg M (xN z (b.ul 0 tz)) (bk c fun b92 V8 c=>dh ((av z z z (cvb M)).trans z) z (gO call96 z (vs:=[.agg #[U6 g.1.ID,I6 g.1.dn,I6 g.1.To,F6 g.1.Lo,F6 g.1.Hi,U6 g.1.Authority,I6 g.1.cx],.agg #[U6 h.1.ID,I6 h.1.dn,I6 h.1.To,F6 h.1.Lo,F6 h.1.Hi,U6 h.1.Authority,I6 h.1.cx]]) z) (kcO (yr b.to0 V8) fun b93 b=>gb M z (gb Z (bi M z z) (mb (aL Z z z) (nt (bw c z ?_ ?_)))))))
 {
 intro V9 c
 cases c
}
 refine fun V9 c=>al (bJ (tn (wrl (mi z (mi z (mi z (nt ?_)))))))
 cases c
 exact ⟨_,nls,_,m4,fy z,b.ah.ah.cv⟩
}
 refine fun M c=>go M (go M (go M (go M (gb Z (aL M z z) (mb (aL Z z z) (nt (cJ z (al (bJ (tn (wrl (mi z (mi z (mi z (nt ?_)))))))))))))))
 cases c
 exact ⟨_,nls,_,m4,fy z,b.ah.ah.cv⟩
}
 refine fun T6 c=>bH (aQ (aQ ?_))
 replace c:=bz c m4
 refine cZ (bJ (tn (wrl (mi z (mi z (mi z (nt ?_)))))))
 cases c
 exact ⟨_,nls,_,_,x7,fy z,J,b.ah.ah.cv⟩
}
 refine fun P8 c=>bH (aQ (aQ ?_))
 replace c:=bz c x7
 refine cZ (tn (ww (mb z (nt (ar ?_)))))
 cases c
 exact pB z z ⟨_,z,b0,b.ah.ah.cv⟩
}
theorem xz {a0:(List Int)} {x:Value} {a1:Int} (K:Ro (cr .u8) I x a0) (b:St w0 w I [] R) {r:(Bool)} (c:qs a0 a1=some r) :
  Calls prog 11 #[x,U1 a1] w fun e w'=>∃ (I':HL),e = .returned (.bool r)∧I.le I'∧St w0 w' I' [] R:=by {
 unfold qs at c
 refine c0 func11 z z ?_
 have j:=HL.le.refl I
 refine ww (mb z (nt (aj (ww (bk c fun h5 c9 c=>wc call12 [] z z z ((tf b.to0 c9).mono ?_))))))
 rintro _ h6 ⟨U,rfl,b5,b⟩
 refine ⟨_,z,?_⟩
 replace b:=b.of0
 replace K:=K.mono (ro_le b5)
 replace j:=j.trans b5
 refine mb z (mb z (bs c ?_ ?_))
 {
 refine fun o c=>go o (go o (go o (mb (bi o z z) (nt (eG z (ww (bk c fun h7 d0 c=>wc call12 [] z z z ((tf b.to0 d0).mono ?_))))))))
 rintro _ h8 ⟨h9,rfl,d1,b⟩
 refine ⟨_,z,?_⟩
 replace b:=b.of0
 replace j:=j.trans d1
 refine mb z (nt (ar (bh ?_)))
 obtain rfl:=sj c
 exact pB z z ⟨_,z,j,b.cT⟩
}
 refine fun o c=>gv (x) o z (gg o (bX z uI (ak K)) (gb o z (mb (aL o z z) (nt (bw c z ?_ ?_)))))
 {
 refine fun d2 c=>ww (bk c fun i0 d3 c=>wc call12 [] z z z ((tf b.to0 d3).mono ?_))
 rintro _ i1 ⟨i2,rfl,d4,b⟩
 refine ⟨_,z,?_⟩
 replace b:=b.of0
 replace j:=j.trans d4
 refine mb z (nt (ar (bh ?_)))
 obtain rfl:=sj c
 exact pB z z ⟨_,z,j,b.cT⟩
}
 refine fun d2 c=>al (tn (ww (mv (x) z (wv (.agg #[x,Zi]) z z (by obtain ⟨_,_,hv_,_⟩:=(ak K); rw [hv_]; kernel_rfl) ?_))))
 obtain ⟨y,i3,d5,d6,b⟩:=b.box [x,Zi] 74
 refine wa d5 d6 (mp z (nt (ww (bk c fun d7 d8 c=>wc call13 [I6 3] z z z (kdI (yP b.to0 d8) fun b6 i4 b=>mv (b6) z (nt (ww (bk c fun d9 e0 c=>wc call26 [I6 3] z z z (kdI (Bu b.to0 e0) fun l i5 b=>mv (l) z (nt ?_))))))))))
 obtain ⟨e2,c,e3⟩:=ee c
 refine cR (fun a w=>∃ (V:HL) (W:(Option ai)) (X:aq) (M:Value),(nF) (W,X)=some r∧fz 62 [6,7] [M,l] a∧U.le V∧St w0 w V [cX aM M W,bm l X] R) ?_ ?_
 {
 have Y:=HL.le.refl U
 refine ww (mi z (nt (au ?_)))
 replace b:=aR ((pQ (Pt y 0) (({L:=a0,I:=0}:aB)) b.aD ⟨z,K⟩).aD)
 obtain ⟨e4,c⟩:=aS c
 refine bg (fun n a w=>∃ (N:HL) (O:aB) (A:aq) (P:(Option ai)) (p:Int) (u:Value),cU (lm a1) n (O,A,P,p)=some e2∧fz 62 [1,5,6,7,8] [U1 a1,Pt y 0,u,l,I6 p] a∧U.le N∧St w0 w N [cX aM u P,cB (Pt y 0) O,bm l A] R) e4 ⟨_,({L:=a0,I:=0}:aB),d9,(some d7),0,b6,c,fy z,lr,b⟩ ?_
 rintro i6 _ i7 ⟨N,O,A,P,p,u,c,⟨i8,rfl⟩,f,b⟩
 obtain ⟨i9,e5,rfl,c,b7⟩:=aU c
 dsimp only [lm] at c
 replace Y:=Y.trans f
 refine aj (ww (mi z (mb z (nt (bw c z ?_ ?_)))))
 {
 refine fun e6 c=>al (tn (aj (au ?_)))
 obtain ⟨j0,c,b8⟩:=ee c
 refine cR (fun a w=>∃ (Z:HL) (b0:(Option ai)) (B:Value),(lp O p A) b0=some e5∧fz 62 [1,5,6,7,8] [U1 a1,Pt y 0,B,l,I6 p] a∧N.le Z∧St w0 w Z [cB (Pt y 0) O,cX aM B b0,bm l A] R) ?_ ?_
 {
 have C:=HL.le.refl N
 refine ww (mi z (mi z (mk (.int .i64 (i64.wrap a1)) (mi (Gy deA z z) (mb z (nt (bw c z ?_ ?_)))))))
 {
 refine fun e7 c=>ww (mv (u) z (bk c fun j1 e8 c=>wc call42 [u] z z z (kdJ (rM b.to1 e8) fun e9 j2 b=>?_)))
 obtain ⟨j3,f0,f1,b⟩:=b.cO
 replace C:=C.trans f0
 obtain ⟨f2,f3,c⟩:=bn c
 refine wc call41 [e9] z z z ((Ac f1 b.to0 f3).mono ?_)
 rintro _ j4 ⟨j5,D,rfl,f4,b⟩
 refine ⟨_,z,?_⟩
 replace b:=b.of1
 replace C:=C.trans f4
 refine mv (.tuple #[D,I6 f2.2]) z (mv (D) z (mi z (mv (D) z (mi z (nt (aj (ww (mi z (mb z (nt (bw c z ?_ ?_)))))))))))
 {
 intro f5 c
 cases c
}
 refine fun f5 c=>al (tn (wrl (mv (D) z (mv (D) z (nt ?_)))))
 cases c
 exact ⟨_,_,D,b8,fy z,C,(aR b).aA.ah.aA.eu⟩
}
 refine fun e7 c=>al (tn ?_)
 cases c
 exact ⟨_,P,u,b8,fy z,C,b.aD.ah.aD.eu⟩
}
 rintro _ j6 ⟨Z,b0,B,c,⟨j7,rfl⟩,f6,b⟩
 dsimp only [lp] at c
 replace f:=f.trans f6
 refine ww (mp z (bk c fun d f7 c=>wc call38 [Pt y 0] z z z ((xB b.to1 f7).mono ?_)))
 rintro _ j8 ⟨j9,b9,c1,c2,c3,c4,c5,c6,c7,rfl,f8,b⟩
 refine ⟨_,z,?_⟩
 replace b:=b.of9
 replace f:=f.trans f8
 obtain ⟨k0,k1,f9,g0,b⟩:=b.box [Zb,Zu,Zu,Zu,Zu,Zi,Zu,Zu,Zu,Zs,Zs,Zs,Zs,Zs,Zi,Zu,Zu,Zs,Zs,Zu,Zs,Zu,Zi,Zi,Zf,Zf,Zu,Zi,.bool false] 49
 refine wa f9 g0 (bxk b z sI (oJ 9 z (oC (oS b.sv1) (oC (oS b.sv2) (oC (oS b.sv3) (oC (oS b.sv4) (oC (oS b.sv5) (oJ 3 z (oC (oS b.sv6) (oC (oS b.sv7) (oC z (oC (oS b.sv8) (oJ 8 z oN)))))))))))) fun k2 b=>nt (aj (rg b 14 [0,0,2,6,0,31,0,0,128,384,0,2047,4095,8191] [] mixed (sz (B) 0 z z (si 1 z z (si 2 z z (sk (.int .u64 (u64.wrap (i64.wrap (p+1)))) 3 z (sh _ 4 z (fun w b=>xN z (b.fm 0 tz)) (sz (l) 6 z z (si 7 z z (si 8 z z (sk (.int .u64 (u64.wrap (i64.wrap (p+1)))) 9 z (sh _ 10 z (fun w b=>xN z (b.fm 0 tz)) (e1 5 z z fun w b=>?_))))))))))))))
 replace b:=b.ah
 obtain ⟨k3,g1,g,b⟩:=b.cO
 replace f:=f.trans g1
 replace b:=b.ah
 obtain ⟨k4,c8,h,b⟩:=b.cO
 replace g:=g.mono (ro_le c8)
 replace f:=f.trans c8
 replace b:=b.ah
 obtain ⟨k5,b1,i,b⟩:=b.cO
 replace g:=g.mono (ro_le b1)
 replace h:=h.mono (ro_le b1)
 replace f:=f.trans b1
 replace b:=b.ah
 obtain ⟨k6,S,k,b⟩:=b.cO
 replace g:=g.mono (ro_le S)
 replace h:=h.mono (ro_le S)
 replace i:=i.mono (ro_le S)
 replace f:=f.trans S
 replace b:=b.ah
 obtain ⟨k7,Q,m,b⟩:=b.cO
 replace g:=g.mono (ro_le Q)
 replace h:=h.mono (ro_le Q)
 replace i:=i.mono (ro_le Q)
 replace k:=k.mono (ro_le Q)
 replace f:=f.trans Q
 replace b:=b.ah
 obtain ⟨k8,F,s,b⟩:=b.cO
 replace g:=g.mono (ro_le F)
 replace h:=h.mono (ro_le F)
 replace i:=i.mono (ro_le F)
 replace k:=k.mono (ro_le F)
 replace m:=m.mono (ro_le F)
 replace f:=f.trans F
 replace b:=b.ah
 obtain ⟨k9,v,G,b⟩:=b.cO
 replace g:=g.mono (ro_le v)
 replace h:=h.mono (ro_le v)
 replace i:=i.mono (ro_le v)
 replace k:=k.mono (ro_le v)
 replace m:=m.mono (ro_le v)
 replace s:=s.mono (ro_le v)
 replace f:=f.trans v
 replace b:=b.ah
 obtain ⟨l0,t,T,b⟩:=b.cO
 replace g:=g.mono (ro_le t)
 replace h:=h.mono (ro_le t)
 replace i:=i.mono (ro_le t)
 replace k:=k.mono (ro_le t)
 replace m:=m.mono (ro_le t)
 replace s:=s.mono (ro_le t)
 replace G:=G.mono (ro_le t)
 replace f:=f.trans t
 replace b:=b.aD
 obtain ⟨H,g2,c⟩:=bn c
 refine wec call14 [B,U6 (u64.wrap (i64.wrap (p+1))),.agg #[U1 d.1.Kind,U6 d.1.ID.ab,U6 d.1.ID.Seq,U6 d.1.ae,U6 d.1.Index,I6 d.1.E,U6 d.1.br.ID.ab,U6 d.1.br.ID.Seq,U6 d.1.br.ae,b9,c1,c2,c3,c4,I6 d.1.R.E,U6 d.1.R.ae,U6 d.1.R.Index,c5,c6,U6 d.1.bY,c7,U6 d.1.ap.ID,I6 d.1.ap.dn,I6 d.1.ap.To,F6 d.1.ap.Lo,F6 d.1.ap.Hi,U6 d.1.ap.Authority,I6 d.1.ap.cx,.bool d.1.On]] z z ((sQ g h i k m s G T b.to1 g2).mono ?_)
 rintro _ l1 ⟨l2,g3,g4,rfl,q,b2,b3,b⟩
 refine ⟨_,z,?_⟩
 replace b:=b.of1
 replace g:=g.mono (ro_le q)
 replace h:=h.mono (ro_le q)
 replace i:=i.mono (ro_le q)
 replace k:=k.mono (ro_le q)
 replace m:=m.mono (ro_le q)
 replace s:=s.mono (ro_le q)
 replace G:=G.mono (ro_le q)
 replace T:=T.mono (ro_le q)
 replace f:=f.trans q
 refine wn [10,9,8,7,6] b (pkr z z (fun w b=>xN z (b.fO 0 tz)) (pkr z z (fun w b=>by kernel_rfl) (pz (pz (pz aT))))) (e1 11 z z fun w b=>?_)
 replace b:=b.aA
 obtain ⟨J,g5,c⟩:=bn c
 refine wec call30 [l,U6 (u64.wrap (i64.wrap (p+1))),.agg #[U1 d.1.Kind,U6 d.1.ID.ab,U6 d.1.ID.Seq,U6 d.1.ae,U6 d.1.Index,I6 d.1.E,U6 d.1.br.ID.ab,U6 d.1.br.ID.Seq,U6 d.1.br.ae,b9,c1,c2,c3,c4,I6 d.1.R.E,U6 d.1.R.ae,U6 d.1.R.Index,c5,c6,U6 d.1.bY,c7,U6 d.1.ap.ID,I6 d.1.ap.dn,I6 d.1.ap.To,F6 d.1.ap.Lo,F6 d.1.ap.Hi,U6 d.1.ap.Authority,I6 d.1.ap.cx,.bool d.1.On]] z z ((vU g h i k m s G T b.to1 g5).mono ?_)
 rintro _ l3 ⟨l4,g6,g7,rfl,b4,g8,g9,b⟩
 refine ⟨_,z,?_⟩
 replace b:=b.of1
 replace b2:=b2.mono (ro_le b4)
 replace b3:=b3.mono (ro_le b4)
 replace f:=f.trans b4
 refine w0n b (e1 12 z z fun w b=>bk c fun l5 h0 c=>wec call39 [.agg #[U1 H.1.Kind,U6 H.1.ID.ab,U6 H.1.ID.Seq,I6 H.1.R.E,U6 H.1.R.ae,U6 H.1.R.Index,g3,g4],.agg #[U1 J.1.Kind,U6 J.1.ID.ab,U6 J.1.ID.Seq,I6 J.1.R.E,U6 J.1.R.ae,U6 J.1.R.Index,g6,g7]] z z (kcO (wD (b2.mono cS) (b3.mono cS) (g8.mono cS) (g9.mono cS) b.to0 h0) fun l6 b=>w0n b ?_))
 refine sb 13 z z (bt ?_)
 refine fun w b=>tn (bw c z ?_ ?_)
 {
 intro h1 c
 cases c
}
 refine fun h1 c=>al (bJ (tn (wrl (mi z (mi z (mi z (nt ?_)))))))
 cases c
 exact ⟨_,nls,_,_,_,_,_,B,b7,fy z,f,b.aA.aD.eu⟩
}
 refine fun e6 c=>bH (aQ (aQ ?_))
 replace c:=bz c b7
 refine cZ (tn ?_)
 cases c
 exact ⟨_,P,A,u,e3,fy z,Y,b.aD.ah.cv⟩
}
 rintro _ l7 ⟨V,W,X,M,c,⟨l8,rfl⟩,h2,b⟩
 dsimp only [nF] at c
 replace j:=j.trans h2
 refine ww (mv (M) z (mv (l) z ?_))
 replace b:=b.ah.ah
 obtain ⟨l9,h3,c⟩:=bn c
 refine wc call40 [M,l] z z z ((Be b.to2 h3).mono ?_)
 rintro _ m0 ⟨m1,rfl,h4,b⟩
 refine ⟨_,z,?_⟩
 replace b:=b.of2
 replace j:=j.trans h4
 refine mb z (nt (ar ?_))
 obtain rfl:=sj c
 exact pB z z ⟨_,z,j,b.cT⟩
}
end Go.Proofs.YtgnkkopjkgdieaaGreat
