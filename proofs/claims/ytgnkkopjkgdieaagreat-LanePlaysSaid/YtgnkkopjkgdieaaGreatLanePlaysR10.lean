/- A part of the proof. -/
import Derived.Test.YtgnkkopjkgdieaaGreatLanePlaysR9
set_option linter.unusedVariables false
set_option linter.unusedSimpArgs false
set_option maxRecDepth 100000
set_option maxHeartbeats 4000000
namespace Go.Proofs.YtgnkkopjkgdieaaGreat
open Go Go.V
open _root_.Go.Proofs.Tryz IntKind
variable {w0 w:World} {I:HL} {R:SP}
attribute [local irreducible] wpList Code.wp wpQuiet Calls bodyPost Oper.wp wpS Nx gE YieldsIn
theorem vN {a0:(Option ae)} {p0:Value} {a1:ai} {p1:Value} (b:St w0 w I [cE aD p0 a0,aL p1 a1] R) {r:(Bool)} (c:pL a0 a1=some r) :
  Calls prog 40 #[p0,p1] w fun e w'=>∃ (I':HL),e = .returned (.bool r)∧I.le I'∧St w0 w' I' [cE aD p0 a0,aL p1 a1] R:=by {
 unfold pL at c
 refine c0 func40 z ntmps40 ?_
 have b0:=HL.le.refl I
 refine ww (mb z (nt (wp_seq (wp_seq ?_))))
 obtain ⟨f,T9,V0,V1,V2,V3,V4,V5,⟨rfl,y5,y6,y7,y8⟩,y9⟩:=bd b.ab
 have b:=y9
 refine rg b 24 [0,1,0,4,12,28,63,127,255,511,255,2047,4095,8191,16383,32767,65535,32767,163839,425983,950271,2097151,4194303,8388607] [] mixed (sz (p0) 0 z z (sp 2 z z (sp 3 z z (sf 4 z z underlying130 z sizeOf26 (sl 5 z z isAgg26 (fun w b=>b.bc0 z) (e1 1 z z fun w b=>?_))))))
 replace b:=b.aY
 obtain ⟨V6,A0,c⟩:=bn c
 refine wec call24 [p0] z z (kca (oE b.to1 A0) fun V7 b=>?_)
 replace b:=b.of1
 refine wn [5,4,3,2] b (pkr z z (fun w b=>ao z isAgg26 (b.bc1 z)) (pf z z underlying130 z sizeOf26 (pz (pz bu)))) (sb 6 z z (sb 7 z z (bs c ?_ ?_)))
 {
 intro S c
 cases c
}
 {
 intro S c
 refine sgz p0 8 z S z (sgz (Pt _ _) 10 z S z (ia 9 (by kernel_rfl) (nxe [11,12,13,14,15,16,17,18,19,20,21,22,23] (by kernel_rfl) z ((ar z z z (cvb S)).trans z) ?_)))
 clear b
 intro w b
 obtain ⟨A1,A2,c⟩:=bn c
 refine wec call85 [p0] z z (kca (pw b.to1 A2) fun V8 b=>?_)
 replace b:=b.of1
 refine wn [10] b (cX z (cT ((ar z z z (cvb S)).trans z) (fun w b=>z)) bu) (ia 11 (by kernel_rfl) (nxe [12,13,14,15,16,17,18,19,20,21,22,23] (by kernel_rfl) z ((ar z z z (cvb S)).trans z) ?_))
 clear b
 intro w b
 replace b:=aj (Pt f 0) a1 b.aY.aY.aY.aY ⟨z,y5,y6,y7,y8⟩
 obtain ⟨A3,A4,c⟩:=bn c
 refine wec call67 [Pt f 0] z z (kca (oV b.to1 A4) fun V9 b=>?_)
 obtain ⟨W0,W1,W2,W3,W4,A5,W5,W6,⟨h7,A6,l9,A7,A8⟩,A9⟩:=bd b.of1
 replace h7:=dF h7
 subst h7
 have b:=A9
 refine w0n b (sgk (.bool (!(A1==A3))) 12 z S (sh (.bool _) 13 z (fun w b=>aE S z z) (sb 14 z z (bs c ?_ ?_))))
 {
 intro C c
 cases c
}
 {
 intro C c
 refine sgz p0 15 z C z (sgz (Pt _ _) 17 z C z (sgz (Pt _ _) 18 z C z (sg _ 19 z C (fun w b=>aO z underlying130 z sizeOf65 z) (sg _ 20 z C (fun w b=>ao z isAgg65 (b.bc0 z)) (ia 16 (by kernel_rfl) (nxe [21,22,23] (by kernel_rfl) z ((ar z z z (cvb C)).trans z) ?_))))))
 clear b
 intro w b
 replace b:=b.aY
 obtain ⟨W7,B0,c⟩:=bn c
 refine wec call23 [p0] z z (kcb (sT b.to1 B0) fun B1 W8 b=>?_)
 replace b:=b.of2
 refine wn [20,19,18,17] b (cX z (cT ((ar z z z (cvb C)).trans z) (fun w b=>ao z isAgg65 (b.bc2 z))) (cX z (cT ((ar z z z (cvb C)).trans z) (fun w b=>aO z underlying130 z sizeOf65 z)) (cX z (cT ((ar z z z (cvb C)).trans z) (fun w b=>z)) (cX z (cT ((ar z z z (cvb C)).trans z) (fun w b=>z)) bu)))) (ia 21 (by kernel_rfl) (nxe [22,23] (by kernel_rfl) z ((ar z z z (cvb C)).trans z) ?_))
 clear b
 intro w b
 obtain ⟨W9,m0,b⟩:=b.cx
 replace b:=b.ap
 obtain ⟨X0,m1,b⟩:=b.cx
 obtain ⟨X1,B2,c⟩:=bn c
 refine wec call86 [B1,A5] z z (kca (qK (b.pG m0) (b.nf m1) b.to0 B2) fun X2 b=>?_)
 replace b:=(b.of0.ab.ba m0).ab.ba m1
 refine w0n b (sgz (.bool _) 22 z C z (sh (.bool _) 23 z (fun w b=>aE C z z) (bi ?_)))
 intro w b
 refine tn (bw c z ?_ ?_)
 {
 intro B3 c
 cases c
}
 {
 intro B3 c
 refine wp_skip (tn (ww (mv (p0) z ?_)))
 replace b:=b.ay
 obtain ⟨h8,B4,c⟩:=bn c
 refine wc call87 [p0] z z z (kcb (qR b.to1 B4) fun P X3 b=>?_)
 replace b:=b.of2
 refine mv (P) z (nt (wp_seq (ww (mv (P) z (mz (bW z underlying159 b.sv0) (mp z (mp z (mf z underlying130 z sizeOf125 (ml z isAgg125 (b.bc4 z) (mz (bW z underlying125 (ag l9)) (mb z (nt (bw c z ?_ ?_)))))))))))))
 {
 intro B5 c
 cases c
}
 {
 intro B5 c
 refine wp_skip (tn ?_)
 obtain ⟨B6,c,B7⟩:=dY c
 refine cQ (fun a w=>∃ (I4784:HL),(mJ a0 a1) ()=some r∧fz 267 [0,1] [p0,Pt f 0] a∧I.le I4784∧St w0 w I4784 [cE aD p0 a0,aL (Pt f 0) a1] R) ?_ ?_
 {
 have h9:=HL.le.refl I
 refine ww (mi z (nt (wp_block ?_)))
 replace b:=(aj (Pt f 0) a1 b.cV.cV.aY.cV ⟨z,A6,l9,A7,A8⟩).ap.sub
 obtain ⟨B8,c⟩:=aS c
 refine bf (fun n a w=>∃ (I4630:HL) (d0:Int),cP (jQ h8 a0 a1) n d0=some B6∧fz 267 [0,1,5,6] [p0,Pt f 0,P,I6 d0] a∧I.le I4630∧St w0 w I4630 [aL (Pt f 0) a1,aZ lW P h8,cE aD p0 a0] R) B8 ⟨_,0,c,fy z,lr,b⟩ ?_
 rintro X4 _ X5 ⟨I4630,d0,c,⟨X6,rfl⟩,b3,b⟩
 obtain ⟨X7,B9,rfl,c,m2⟩:=aV c
 dsimp only [jQ] at c
 replace h9:=h9.trans b3
 refine wp_seq (ww (mi z (mv (P) z (mz (bW z underlying159 b.sv1) (mb z (nt (bw c z ?_ ?_)))))))
 {
 intro C0 c
 refine wp_skip (tn (wp_seq (wp_block (ww (mv (p0) z (mv (P) z (mi z ?_)))))))
 obtain ⟨H,C1,c⟩:=bn c
 obtain ⟨i0,i1,i2⟩:=aK C1
 refine mz (az z z underlying159 sizeOf28 b.sv1 i0 i1) (mz (av (cs:=[U6 H.Session,U6 H.Seq]) z isAgg28 sizeOf28 (b.Fu i2 0 (by rintro _ rfl; rfl))) ?_)
 replace b:=b.ay
 obtain ⟨t,C2,c⟩:=bn c
 refine wc call88 [p0,.agg #[U6 H.Session,U6 H.Seq]] z z z ((sS b.to1 C2).mono ?_)
 rintro _ X8 ⟨I4648,d1,d2,d3,d4,rfl,C3,f8,f9,g0,g1,b⟩
 refine ⟨_,z,?_⟩
 replace b:=b.of1
 replace b3:=b3.trans C3
 refine mv (.tuple #[.agg #[U6 t.1.ID.Session,U6 t.1.ID.Seq,U6 t.1.Epoch,d1,d2,d3,d4],.bool t.2]) z (mv (.agg #[U6 t.1.ID.Session,U6 t.1.ID.Seq,U6 t.1.Epoch,d1,d2,d3,d4]) z (mb z ?_))
 obtain ⟨m3,X9,C4,C5,b⟩:=b.box [Zu,Zu,Zu,Zs,Zs,Zs,Zs] 46
 refine wa C4 C5 (bxk b z sizeOf46 (oJ 3 z (oC (oS (ag f8)) (oC (oS (ag f9)) (oC (oS (ag g0)) (oC (oS (ag g1)) oN))))) fun Y0 b=>mb z (nt (wp_seq ?_)))
 obtain ⟨Y1,Y2,m4,Y3,Y4,Y5,Y6,Y7,⟨i3,b4,T,b5,b6⟩,C6⟩:=bd b.ay
 replace i3:=dF i3
 subst i3
 have b:=C6
 obtain ⟨Y8,c,m5⟩:=bn c
 refine qT (fun a w=>∃ (I4769:HL) (b7:Int) (b8:Int) (b9:Int) (g2:(List Nat)) (g3:(List (Nat×Nat))) (g4:(List Nat)) (g5:(List Int)) (i4:Bool) (i5:Nat) (d5:Value) (d6:Value) (d7:Value) (d8:Value),(ov t d0) (b7,b8,b9,g2,g3,g4,g5,i4)=some B9∧fz 267 [0,1,5,6,7,8,9,10] [p0,Pt f 0,P,I6 d0,Pt m3 0,.bool t.2,Pt i5 0,.bool i4] a∧I4648.le I4769∧Ro bV I4769 d5 g2∧Ro gn I4769 d6 g3∧Ro bV I4769 d7 g4∧Ro (cg .u8) I4769 d8 g5∧St w0 w I4769 [cE aD p0 a0,aL (Pt f 0) a1,aZ lW P h8,cells m3 [U6 t.1.ID.Session,U6 t.1.ID.Seq,U6 t.1.Epoch,d1,d2,d3,d4],cells i5 [U6 b7,U6 b8,U6 b9,d5,d6,d7,d8]] R) ?_ ?_
 {
 have c1:=HL.le.refl I4648
 refine rg b 15 [0,1,3,7,0,0,48,112,255,511,1023,1023,0,6143,16383] [] mixed (sp 0 z z (sp 1 z z (sf 2 z z underlying130 z sizeOf125 (sl 3 z z isAgg125 (fun w b=>b.bc0 z) (sz (P) 4 z z (si 5 z z (sh _ 6 z (fun w b=>az z z underlying159 sizeOf28 b.sv6 i0 i1) (sh _ 7 z (fun w b=>av (cs:=[U6 H.Session,U6 H.Seq]) z isAgg28 sizeOf28 (b.FL i2 0 (by rintro _ rfl; rfl))) ?_))))))))
 obtain ⟨D,m6,c⟩:=bn c
 refine pC 8 12 (by kernel_rfl) ?_ ?_
 {
 refine nx z z fun w b=>wec call70 [m4,.agg #[U6 H.Session,U6 H.Seq]] z z ((kc T b.to0 m6).mono ?_)
 rintro _ Y9 ⟨I4696,i6,i7,i8,i9,rfl,d9,m7,m8,m9,n0,b⟩
 refine ⟨_,z,?_⟩
 replace b:=b.of0
 replace b4:=b4.mono (ro_le d9)
 replace T:=T.mono (ro_le d9)
 replace b5:=b5.mono (ro_le d9)
 replace b6:=b6.mono (ro_le d9)
 replace c1:=c1.trans d9
 refine w0n b (sz (.tuple #[.agg #[U6 D.1.ID.Session,U6 D.1.ID.Seq,U6 D.1.Epoch,i6,i7,i8,i9],.bool D.2]) 9 z z (sz (.agg #[U6 D.1.ID.Session,U6 D.1.ID.Seq,U6 D.1.Epoch,i6,i7,i8,i9]) 10 z z (sb 11 z z (e1 12 z z fun w b=>?_))))
 obtain ⟨n1,C7,C8,C9,b⟩:=b.box [Zu,Zu,Zu,Zs,Zs,Zs,Zs] 46
 refine bS (v:=Pt n1 0) (w':=C7) z (tO (by kernel_rfl) C8 C9) (wn [11,10,9] b (pz (pz (pz bu))) (e1 13 z z fun w b=>bxe b z sizeOf46 (oJ 3 z (oC (oS (ag m7)) (oC (oS (ag m8)) (oC (oS (ag m9)) (oC (oS (ag n0)) oN))))) fun Z0 b=>wn [11] b (pz bu) (sb 14 z z (bi ?_))))
 intro w b
 refine ⟨z,?_⟩
 cases c
 exact ⟨_,_,_,_,_,_,_,_,_,n1,i6,i7,i8,i9,m5,fy z,c1,m7,m8,m9,n0,(aj (Pt f 0) a1 b.aY.aY.aY.aY ⟨z,b4,T,b5,b6⟩).ab.ay.aY.ap.aY.oT⟩
}
 {
 refine nx z z fun w b=>?_
 obtain ⟨n2,D0,D1,D2,b⟩:=b.box [Zu,Zu,Zu,Zs,Zs,Zs,Zs] 46
 refine bS (v:=Pt n2 0) (w':=D0) z (tO (by kernel_rfl) D1 D2) (wn [7,6,5,4,3,2,1,0] b (pkr z z (fun w b=>av (cs:=[U6 H.Session,U6 H.Seq]) z isAgg28 sizeOf28 (b.FI i2 0 (by rintro _ rfl; rfl))) (pkr z z (fun w b=>az z z underlying159 sizeOf28 b.sv7 i0 i1) (pz (pz (pkr z z (fun w b=>ao z isAgg125 (b.bc1 z)) (pf z z underlying130 z sizeOf125 (pz (pz bu)))))))) (e1 8 z z fun w b=>wec call70 [m4,.agg #[U6 H.Session,U6 H.Seq]] z z ((kc T b.to0 m6).mono ?_)))
 rintro _ Z1 ⟨I4731,j0,j1,j2,j3,rfl,e0,n3,n4,n5,n6,b⟩
 refine ⟨_,z,?_⟩
 replace b:=b.of0
 replace b4:=b4.mono (ro_le e0)
 replace T:=T.mono (ro_le e0)
 replace b5:=b5.mono (ro_le e0)
 replace b6:=b6.mono (ro_le e0)
 replace c1:=c1.trans e0
 refine w0n b (sz (.tuple #[.agg #[U6 D.1.ID.Session,U6 D.1.ID.Seq,U6 D.1.Epoch,j0,j1,j2,j3],.bool D.2]) 9 z z (sz (.agg #[U6 D.1.ID.Session,U6 D.1.ID.Seq,U6 D.1.Epoch,j0,j1,j2,j3]) 10 z z (sb 11 z z (e1 13 z z fun w b=>bxe b z sizeOf46 (oJ 3 z (oC (oS (ag n3)) (oC (oS (ag n4)) (oC (oS (ag n5)) (oC (oS (ag n6)) oN))))) fun Z2 b=>wn [11] b (pz bu) (sb 14 z z (bi ?_))))))
 intro w b
 refine ⟨z,?_⟩
 cases c
 exact ⟨_,_,_,_,_,_,_,_,_,n2,j0,j1,j2,j3,m5,fy z,c1,n3,n4,n5,n6,(aj (Pt f 0) a1 b.aY.aY.aY.aY ⟨z,b4,T,b5,b6⟩).ab.ay.aY.ap.aY.oT⟩
}
}
 {
 rintro _ Z3 ⟨I4769,b7,b8,b9,g2,g3,g4,g5,i4,i5,d5,d6,d7,d8,c,⟨Z4,rfl⟩,e2,D3,D4,D5,D6,b⟩
 dsimp only [ov] at c
 replace f8:=f8.mono (ro_le e2)
 replace f9:=f9.mono (ro_le e2)
 replace g0:=g0.mono (ro_le e2)
 replace g1:=g1.mono (ro_le e2)
 replace b3:=b3.trans e2
 refine tn (ww (mb z (mb z (mb z (bs c ?_ ?_)))))
 {
 intro g6 c
 cases c
}
 {
 intro g6 c
 refine gb g6 z (gb g6 z (mb (aE g6 z z) (mb z (bs c ?_ ?_))))
 {
 intro c2 c
 cases c
}
 {
 intro c2 c
 refine gg c2 (av (cs:=[U6 t.1.ID.Session,U6 t.1.ID.Seq,U6 t.1.Epoch,d1,d2,d3,d4]) z isAgg46 sizeOf46 (b.rU 0 z)) (gg c2 (av (cs:=[U6 b7,U6 b8,U6 b9,d5,d6,d7,d8]) z isAgg46 sizeOf46 (b.wq 0 z)) ?_)
 obtain ⟨Z5,D7,c⟩:=bn c
 refine de ((ar z z z (cvb c2)).trans z) z (js call89 z (vs:=[.agg #[U6 t.1.ID.Session,U6 t.1.ID.Seq,U6 t.1.Epoch,d1,d2,d3,d4],.agg #[U6 b7,U6 b8,U6 b9,d5,d6,d7,d8]]) z) (kca (pF (a1:=({ID:=({Session:=b7,Seq:=b8}:bK),Epoch:=b9,Gets:=g2,Scans:=g3,Puts:=g4,Data:=g5}:al)) (f8.mono cz) (f9.mono cz) (g0.mono cz) (g1.mono cz) (D3.mono cz) (D4.mono cz) (D5.mono cz) (D6.mono cz) b.to0 D7) fun Z6 b=>?_)
 replace b:=b.of0
 refine gb c2 z (mb (aE c2 z z) (nt (bw c z ?_ ?_)))
 {
 intro D8 c
 cases c
}
 {
 intro D8 c
 refine wp_skip (bB (tn (wrl (mi z (mi z (mi z (nt ?_)))))))
 cases c
 exact ⟨_,nls,_,_,m2,fy z,b3,b.ay.ay.dC⟩
}
}
}
}
}
 {
 intro C0 c
 refine wp_exit (aQ (aQ ?_))
 replace c:=bg c m2
 refine cZ (tn ?_)
 cases c
 exact ⟨_,B7,fy z,h9,b.ay.cd⟩
}
}
 {
 rintro _ Z7 ⟨I4784,c,⟨Z8,rfl⟩,D9,b⟩
 dsimp only [mJ] at c
 replace b0:=b0.trans D9
 obtain ⟨E0,c,E1⟩:=dY c
 refine cQ (fun a w=>∃ (I7193:HL),(qm a0 a1) ()=some r∧fz 267 [0,1] [p0,Pt f 0] a∧I4784.le I7193∧St w0 w I7193 [cE aD p0 a0,aL (Pt f 0) a1] R) ?_ ?_
 {
 have j4:=HL.le.refl I4784
 refine ww (mi z (nt (wp_block ?_)))
 obtain ⟨E2,c⟩:=aS c
 refine bf (fun n a w=>∃ (I6387:HL) (B:Int),cP (ln a0 a1) n B=some E0∧fz 267 [0,1,11] [p0,Pt f 0,I6 B] a∧I4784.le I6387∧St w0 w I6387 [cE aD p0 a0,aL (Pt f 0) a1] R) E2 ⟨_,0,c,fy z,lr,b⟩ ?_
 rintro Z9 _ a00 ⟨I6387,B,c,⟨a01,rfl⟩,c3,b⟩
 obtain ⟨a02,n7,rfl,c,n8⟩:=aV c
 dsimp only [ln] at c
 replace j4:=j4.trans c3
 refine wp_seq (ww (mi z (mb z (nt (bw c z ?_ ?_)))))
 {
 intro E3 c
 refine wp_skip (tn (wp_seq (wp_block (wp_seq (wp_seq ?_)))))
 obtain ⟨a03,j5,a04,a05,a06,a07,a08,a09,⟨j6,k,u,x,y⟩,E4⟩:=bd b.ab
 replace j6:=dF j6
 subst j6
 have b:=E4
 obtain ⟨a10,c,g7⟩:=bn c
 refine qT (fun a w=>∃ (I6556:HL) (j7:Bool),(ot B a0 a1) j7=some n7∧fz 267 [0,1,11,117] [p0,Pt f 0,I6 B,.bool j7] a∧I6387.le I6556∧St w0 w I6556 [cE aD p0 a0,aL (Pt f 0) a1] R) ?_ ?_
 {
 have A:=HL.le.refl I6387
 refine rg b 15 [0,0,2,7,15,0,32,96,224,0,527,2031,4079,8191,16383] [] mixed (sz (p0) 0 z z (si 1 z z (sp 5 z z (sp 6 z z (sf 7 z z underlying130 z sizeOf124 (sl 8 z z isAgg124 (fun w b=>b.bc0 z) (si 9 z z (e1 2 z z fun w b=>?_))))))))
 obtain ⟨E5,E6,c⟩:=bn c
 refine wec call90 [I6 B] z z (kca (ll b.to0 E6) fun a11 b=>?_)
 replace b:=b.of0
 refine wn [9,8,7,6,5,0] b (pz (pkr z z (fun w b=>ao z isAgg124 (b.bc0 z)) (pf z z underlying130 z sizeOf124 (pz (pz (pz bu)))))) (e1 3 z z fun w b=>?_)
 replace b:=b.aY
 obtain ⟨U,E7,c⟩:=bn c
 refine wec call21 [p0,F6 E5] z z (kcb (tC b.to1 E7) fun g8 a12 b=>?_)
 replace b:=b.of2
 refine wn [9,8,7,6,5] b (pz (pkr z z (fun w b=>ao z isAgg124 (b.bc2 z)) (pf z z underlying130 z sizeOf124 (pz (pz bu))))) ?_
 obtain ⟨j8,n9,c⟩:=bn c
 refine pC 4 10 (by kernel_rfl) ?_ ?_
 {
 refine nx z z fun w b=>?_
 obtain ⟨I6432,e3,o0,b⟩:=b.cK
 replace k:=k.mono (ro_le e3)
 replace u:=u.mono (ro_le e3)
 replace x:=x.mono (ro_le e3)
 replace y:=y.mono (ro_le e3)
 replace A:=A.trans e3
 obtain ⟨o1,E8,E9,G0,b⟩:=b.er (E:=aA) (xs:=[U]) [[.bool U.Has,g8]] 61 1 z (bz.cons ⟨_,z,o0,oS (ag o0)⟩ bz.nil)
 refine bS (v:=(.slice (some ⟨o1,0,none⟩) 1 1)) (w':=E8) z (di (by kernel_rfl) E9 G0) (wn [9,8,7,6,5] b (pz (pkr z z (fun w b=>ao z isAgg124 (b.bc2 z)) (pf z z underlying130 z sizeOf124 (pz (pz bu))))) (e1 10 z z fun w b=>wec call90 [I6 B] z z (kca (ll b.to0 n9) fun a13 b=>?_)))
 replace b:=b.of0
 refine wn [8,7,6,5] b (pkr z z (fun w b=>ao z isAgg124 (b.bc2 z)) (pf z z underlying130 z sizeOf124 (pz (pz bu)))) (e1 11 z z fun w b=>?_)
 obtain ⟨o2,G1,c⟩:=bn c
 refine wec call80 [j5,F6 j8,U6 18446744073709551615] z z ((iM k b.to0 G1).mono ?_)
 rintro _ a14 ⟨I6446,G2,rfl,e4,o3,b⟩
 refine ⟨_,z,?_⟩
 replace b:=b.of0
 replace k:=k.mono (ro_le e4)
 replace u:=u.mono (ro_le e4)
 replace x:=x.mono (ro_le e4)
 replace y:=y.mono (ro_le e4)
 replace A:=A.trans e4
 refine w0n b (e1 12 z z fun w b=>?_)
 obtain ⟨o4,G3,G4,G5,b⟩:=b.er (E:=aA) (xs:=[o2]) [[.bool o2.Has,G2]] 61 1 z (bz.cons ⟨_,z,o3,oS (ag o3)⟩ bz.nil)
 refine bS (v:=(.slice (some ⟨o4,0,none⟩) 1 1)) (w':=G3) z (di (by kernel_rfl) G4 G5) (w0n b (e1 13 z z fun w b=>?_))
 replace b:=b.ab
 obtain ⟨a15,o5,b⟩:=b.cx
 replace b:=b.ab
 obtain ⟨a16,o6,b⟩:=b.cx
 obtain ⟨a17,G6,c⟩:=bn c
 refine wec call78 [(.slice (some ⟨o1,0,none⟩) 1 1),(.slice (some ⟨o4,0,none⟩) 1 1)] z z (kca (eo (b.pG o5) (b.nf o6) b.to0 G6) fun a18 b=>?_)
 replace b:=(b.of0.ab.ba o5).ab.ba o6
 refine w0n b (sb 14 z z (bi ?_))
 intro w b
 refine ⟨z,?_⟩
 cases c
 exact ⟨_,_,g7,fy z,A,(aj (Pt f 0) a1 b.cV.cV.cV.cV ⟨z,k,u,x,y⟩).ap.cd⟩
}
 {
 refine nx z z fun w b=>wec call90 [I6 B] z z (kca (ll b.to0 n9) fun a19 b=>?_)
 replace b:=b.of0
 refine wn [8,7,6,5] b (pkr z z (fun w b=>ao z isAgg124 (b.bc2 z)) (pf z z underlying130 z sizeOf124 (pz (pz bu)))) ?_
 obtain ⟨c4,o7,c⟩:=bn c
 refine pC 4 11 (by kernel_rfl) ?_ ?_
 {
 refine nx z z fun w b=>?_
 obtain ⟨I6472,e5,o8,b⟩:=b.cK
 replace k:=k.mono (ro_le e5)
 replace u:=u.mono (ro_le e5)
 replace x:=x.mono (ro_le e5)
 replace y:=y.mono (ro_le e5)
 replace A:=A.trans e5
 obtain ⟨o9,G7,G8,G9,b⟩:=b.er (E:=aA) (xs:=[U]) [[.bool U.Has,g8]] 61 1 z (bz.cons ⟨_,z,o8,oS (ag o8)⟩ bz.nil)
 refine bS (v:=(.slice (some ⟨o9,0,none⟩) 1 1)) (w':=G7) z (di (by kernel_rfl) G8 G9) (wn [8,7,6,5] b (pkr z z (fun w b=>ao z isAgg124 (b.bc2 z)) (pf z z underlying130 z sizeOf124 (pz (pz bu)))) (e1 11 z z fun w b=>wec call80 [j5,F6 j8,U6 18446744073709551615] z z ((iM k b.to0 o7).mono ?_)))
 rintro _ a20 ⟨I6481,H0,rfl,e6,q0,b⟩
 refine ⟨_,z,?_⟩
 replace b:=b.of0
 replace k:=k.mono (ro_le e6)
 replace u:=u.mono (ro_le e6)
 replace x:=x.mono (ro_le e6)
 replace y:=y.mono (ro_le e6)
 replace A:=A.trans e6
 refine w0n b (e1 12 z z fun w b=>?_)
 obtain ⟨q1,H1,H2,H3,b⟩:=b.er (E:=aA) (xs:=[c4]) [[.bool c4.Has,H0]] 61 1 z (bz.cons ⟨_,z,q0,oS (ag q0)⟩ bz.nil)
 refine bS (v:=(.slice (some ⟨q1,0,none⟩) 1 1)) (w':=H1) z (di (by kernel_rfl) H2 H3) (w0n b (e1 13 z z fun w b=>?_))
 replace b:=b.ab
 obtain ⟨a21,q2,b⟩:=b.cx
 replace b:=b.ab
 obtain ⟨a22,q3,b⟩:=b.cx
 obtain ⟨a23,H4,c⟩:=bn c
 refine wec call78 [(.slice (some ⟨o9,0,none⟩) 1 1),(.slice (some ⟨q1,0,none⟩) 1 1)] z z (kca (eo (b.pG q2) (b.nf q3) b.to0 H4) fun a24 b=>?_)
 replace b:=(b.of0.ab.ba q2).ab.ba q3
 refine w0n b (sb 14 z z (bi ?_))
 intro w b
 refine ⟨z,?_⟩
 cases c
 exact ⟨_,_,g7,fy z,A,(aj (Pt f 0) a1 b.cV.cV.cV.cV ⟨z,k,u,x,y⟩).ap.cd⟩
}
 {
 refine nx z z fun w b=>wec call80 [j5,F6 j8,U6 18446744073709551615] z z ((iM k b.to0 o7).mono ?_)
 rintro _ a25 ⟨I6502,q4,rfl,e7,c5,b⟩
 refine ⟨_,z,?_⟩
 replace b:=b.of0
 replace k:=k.mono (ro_le e7)
 replace u:=u.mono (ro_le e7)
 replace x:=x.mono (ro_le e7)
 replace y:=y.mono (ro_le e7)
 replace A:=A.trans e7
 refine w0n b (pC 4 12 (by kernel_rfl) ?_ ?_)
 {
 refine nx z z fun w b=>?_
 obtain ⟨I6508,c6,q5,b⟩:=b.cK
 replace k:=k.mono (ro_le c6)
 replace u:=u.mono (ro_le c6)
 replace x:=x.mono (ro_le c6)
 replace y:=y.mono (ro_le c6)
 replace c5:=c5.mono (ro_le c6)
 replace A:=A.trans c6
 obtain ⟨q6,H5,H6,H7,b⟩:=b.er (E:=aA) (xs:=[U]) [[.bool U.Has,g8]] 61 1 z (bz.cons ⟨_,z,q5,oS (ag q5)⟩ bz.nil)
 refine bS (v:=(.slice (some ⟨q6,0,none⟩) 1 1)) (w':=H5) z (di (by kernel_rfl) H6 H7) (w0n b (e1 12 z z fun w b=>?_))
 obtain ⟨q7,H8,H9,J0,b⟩:=b.er (E:=aA) (xs:=[c4]) [[.bool c4.Has,q4]] 61 1 z (bz.cons ⟨_,z,c5,oS (ag c5)⟩ bz.nil)
 refine bS (v:=(.slice (some ⟨q7,0,none⟩) 1 1)) (w':=H8) z (di (by kernel_rfl) H9 J0) (w0n b (e1 13 z z fun w b=>?_))
 replace b:=b.ab
 obtain ⟨a26,q8,b⟩:=b.cx
 replace b:=b.ab
 obtain ⟨a27,q9,b⟩:=b.cx
 obtain ⟨a28,J1,c⟩:=bn c
 refine wec call78 [(.slice (some ⟨q6,0,none⟩) 1 1),(.slice (some ⟨q7,0,none⟩) 1 1)] z z (kca (eo (b.pG q8) (b.nf q9) b.to0 J1) fun a29 b=>?_)
 replace b:=(b.of0.ab.ba q8).ab.ba q9
 refine w0n b (sb 14 z z (bi ?_))
 intro w b
 refine ⟨z,?_⟩
 cases c
 exact ⟨_,_,g7,fy z,A,(aj (Pt f 0) a1 b.cV.cV.cV.cV ⟨z,k,u,x,y⟩).ap.cd⟩
}
 {
 refine nx z z fun w b=>?_
 obtain ⟨s0,J2,J3,J4,b⟩:=b.er (E:=aA) (xs:=[c4]) [[.bool c4.Has,q4]] 61 1 z (bz.cons ⟨_,z,c5,oS (ag c5)⟩ bz.nil)
 refine bS (v:=(.slice (some ⟨s0,0,none⟩) 1 1)) (w':=J2) z (di (by kernel_rfl) J3 J4) (w0n b (e1 4 z z fun w b=>?_))
 replace b:=b.ab
 obtain ⟨I6538,e8,s1,b⟩:=b.cK
 replace k:=k.mono (ro_le e8)
 replace u:=u.mono (ro_le e8)
 replace x:=x.mono (ro_le e8)
 replace y:=y.mono (ro_le e8)
 replace A:=A.trans e8
 obtain ⟨s2,J5,J6,J7,b⟩:=b.er (E:=aA) (xs:=[U]) [[.bool U.Has,g8]] 61 1 z (bz.cons ⟨_,z,s1,oS (ag s1)⟩ bz.nil)
 refine bS (v:=(.slice (some ⟨s2,0,none⟩) 1 1)) (w':=J5) z (di (by kernel_rfl) J6 J7) (w0n b (e1 13 z z fun w b=>?_))
 obtain ⟨a30,s3,b⟩:=b.cx
 replace b:=b.ab
 obtain ⟨a31,s4,b⟩:=b.cx
 obtain ⟨a32,J8,c⟩:=bn c
 refine wec call78 [(.slice (some ⟨s2,0,none⟩) 1 1),(.slice (some ⟨s0,0,none⟩) 1 1)] z z (kca (eo (b.pG s3) (b.nf s4) b.to0 J8) fun a33 b=>?_)
 replace b:=(b.of0.ab.ba s3).ab.ba s4
 refine w0n b (sb 14 z z (bi ?_))
 intro w b
 refine ⟨z,?_⟩
 cases c
 exact ⟨_,_,g7,fy z,A,(aj (Pt f 0) a1 b.cV.cV.cV.cV ⟨z,k,u,x,y⟩).ap.cd⟩
}
}
}
}
 {
 rintro _ a34 ⟨I6556,j7,c,⟨a35,rfl⟩,J9,b⟩
 dsimp only [ot] at c
 replace c3:=c3.trans J9
 refine tn (bw c z ?_ ?_)
 {
 intro K0 c
 cases c
}
 {
 intro K0 c
 refine wp_skip (tn (ww (mi z (nt (wp_block ?_)))))
 obtain ⟨K1,c⟩:=aS c
 refine bf (fun n a w=>∃ (I6978:HL) (L:Int),cP (jS B a0 a1) n L=some n7∧fz 267 [0,1,11,12] [p0,Pt f 0,I6 B,U6 L] a∧I6556.le I6978∧St w0 w I6978 [cE aD p0 a0,aL (Pt f 0) a1] R) K1 ⟨_,0,c,fy z,lr,b⟩ ?_
 rintro a36 _ a37 ⟨I6978,L,c,⟨a38,rfl⟩,g9,b⟩
 obtain ⟨a39,s5,rfl,c,s6⟩:=aV c
 dsimp only [jS] at c
 replace c3:=c3.trans g9
 refine wp_seq (ww (mi z (mb z (nt (bw c z ?_ ?_)))))
 {
 intro K2 c
 refine wp_skip (tn (wp_seq (wp_block (ww (mv (p0) z (mi z ?_))))))
 obtain ⟨K3,K4,c⟩:=bn c
 refine wc call90 [I6 B] z z z (kca (ll b.to0 K4) fun a40 b=>?_)
 replace b:=b.of0
 refine mi z ?_
 obtain ⟨m,K5,c⟩:=bn c
 refine wc call25 [p0,F6 K3,U6 L] z z z (kcb (tH b.to1 K5) fun J a41 b=>?_)
 replace b:=b.of2
 refine mv (.tuple #[.agg #[.bool m.1.Has,J],I6 m.2]) z (mv (.agg #[.bool m.1.Has,J]) z (mi z ?_))
 obtain ⟨s7,a42,K6,K7,b⟩:=b.box [.bool false,Zs] 61
 refine wa K6 K7 (bxk b z sizeOf61 (oC z (oC (oS b.sv1) oN)) fun a43 b=>mi z (nt (ww (mi z (nt ?_)))))
 obtain ⟨a44,c,j9⟩:=bn c
 refine cQ (fun a w=>∃ (k0:Int),(mN m B a1 L) k0=some s5∧fz 267 [0,1,11,12,13,14,15] [p0,Pt f 0,I6 B,U6 L,Pt s7 0,I6 m.2,I6 k0] a∧St w0 w I6978 [cE aD p0 a0,aL (Pt f 0) a1,cells s7 [.bool m.1.Has,J],aZ (cg .u8) J m.1.Val] R) ?_ ?_
 {
 refine ww (mi z (mp z ?_))
 obtain ⟨a45,a46,a47,a48,a49,a50,a51,a52,⟨k1,k2,k3,k4,k5⟩,K8⟩:=bd b.ap
 replace k1:=dF k1
 subst k1
 have b:=K8
 refine mp z (mf z underlying130 z sizeOf26 (ml z isAgg26 (b.bc0 z) (mb z (nt (bw c z ?_ ?_)))))
 {
 intro K9 c
 refine wrl (mi z (nt ?_))
 cases c
 exact ⟨_,j9,fy z,(aj (Pt f 0) a1 b.ap.ap.ap.ap ⟨z,k2,k3,k4,k5⟩).ay.ay.ay.ap.eF⟩
}
 {
 intro K9 c
 refine ww (mi z (mi z (mp z (mp z (mf z underlying130 z sizeOf26 (ml z isAgg26 (b.bc0 z) (mb z (nt (bw c z ?_ ?_)))))))))
 {
 intro L0 c
 refine wrl (mi z (nt ?_))
 cases c
 exact ⟨_,j9,fy z,(aj (Pt f 0) a1 b.ap.ap.ap.ap ⟨z,k2,k3,k4,k5⟩).ay.ay.ay.ap.eF⟩
}
 {
 intro L0 c
 refine wp_skip (tn ?_)
 cases c
 exact ⟨_,j9,fy z,(aj (Pt f 0) a1 b.ap.ap.ap.ap ⟨z,k2,k3,k4,k5⟩).ay.ay.ay.ap.eF⟩
}
}
}
 {
 rintro _ a53 ⟨k0,c,⟨a54,rfl⟩,b⟩
 dsimp only [mN] at c
 refine wp_seq ?_
 obtain ⟨a55,k6,a56,a57,a58,a59,a60,a61,⟨k7,j,o,p,q⟩,L1⟩:=bd b.ab
 replace k7:=dF k7
 subst k7
 have b:=L1
 obtain ⟨a62,c,e9⟩:=bn c
 refine qT (fun a w=>∃ (I7185:HL) (k8:Bool),(mP L) k8=some s5∧fz 267 [0,1,11,12,164] [p0,Pt f 0,I6 B,U6 L,.bool k8] a∧I6978.le I7185∧St w0 w I7185 [cE aD p0 a0,aL (Pt f 0) a1] R) ?_ ?_
 {
 have s:=HL.le.refl I6978
 refine rg b 22 [0,0,3,7,15,31,63,127,255,127,639,1663,3711,127,8319,127,65151,130687,262143,524287,1048575,2097151] [] mixed (si 0 z z (si 1 z z (sb 2 z z (sb 3 z z (bs c ?_ ?_)))))
 {
 intro F c
 cases c
}
 {
 intro F c
 refine sgz (I6 _) 4 z F z (sgz (.bool _) 5 z F z (sgz (.bool _) 6 z F z (bs c ?_ ?_)))
 {
 intro d c
 refine sg _ 7 z d (fun w b=>av (cs:=[.bool m.1.Has,J]) z isAgg61 sizeOf61 (b.xB 0 z)) (sgz (Pt _ _) 9 z d z (sgz (Pt _ _) 10 z d z (sg _ 11 z d (fun w b=>aO z underlying130 z sizeOf124 z) (sg _ 12 z d (fun w b=>ao z isAgg124 (b.bc0 z)) (sgz (I6 _) 13 z d z (sgz (U6 _) 15 z d z ?_))))))
 obtain ⟨k9,s8,c⟩:=bn c
 refine pC 8 14 (by kernel_rfl) ?_ ?_
 {
 refine nxe [14,16,17,18,19,20,21] (by kernel_rfl) z ((ar z z z (cvb d)).trans z) ?_
 clear b
 intro w b
 replace b:=b.cV
 obtain ⟨I7061,f0,s9,b⟩:=b.cK
 replace j:=j.mono (ro_le f0)
 replace o:=o.mono (ro_le f0)
 replace p:=p.mono (ro_le f0)
 replace q:=q.mono (ro_le f0)
 replace s:=s.trans f0
 obtain ⟨t0,L2,L3,L4,b⟩:=b.er (E:=aA) (xs:=[m.1]) [[.bool m.1.Has,J]] 61 1 z (bz.cons ⟨_,z,s9,oS (ag s9)⟩ bz.nil)
 refine bS (v:=(.slice (some ⟨t0,0,none⟩) 1 1)) (w':=L2) z (di (by kernel_rfl) L3 L4) (wn [15,13,12,11,10,9] b (cX z (cT ((ar z z z (cvb d)).trans z) (fun w b=>z)) (cX z (cT ((ar z z z (cvb d)).trans z) (fun w b=>z)) (cX z (cT ((ar z z z (cvb d)).trans z) (fun w b=>ao z isAgg124 (b.bc1 z))) (cX z (cT ((ar z z z (cvb d)).trans z) (fun w b=>aO z underlying130 z sizeOf124 z)) (cX z (cT ((ar z z z (cvb d)).trans z) (fun w b=>z)) (cX z (cT ((ar z z z (cvb d)).trans z) (fun w b=>z)) bu)))))) (ia 14 (by kernel_rfl) (nxe [16,17,18,19,20,21] (by kernel_rfl) z ((ar z z z (cvb d)).trans z) ?_)))
 clear b
 intro w b
 refine wec call90 [I6 B] z z (kca (ll b.to0 s8) fun a63 b=>?_)
 replace b:=b.of0
 refine wn [15,12,11,10,9] b (cX z (cT ((ar z z z (cvb d)).trans z) (fun w b=>z)) (cX z (cT ((ar z z z (cvb d)).trans z) (fun w b=>ao z isAgg124 (b.bc1 z))) (cX z (cT ((ar z z z (cvb d)).trans z) (fun w b=>aO z underlying130 z sizeOf124 z)) (cX z (cT ((ar z z z (cvb d)).trans z) (fun w b=>z)) (cX z (cT ((ar z z z (cvb d)).trans z) (fun w b=>z)) bu))))) (ia 16 (by kernel_rfl) (nxe [17,18,19,20,21] (by kernel_rfl) z ((ar z z z (cvb d)).trans z) ?_))
 clear b
 intro w b
 obtain ⟨t1,L5,c⟩:=bn c
 refine wec call80 [k6,F6 k9,U6 L] z z ((iM j b.to0 L5).mono ?_)
 rintro _ a64 ⟨I7075,L6,rfl,f1,t2,b⟩
 refine ⟨_,z,?_⟩
 replace b:=b.of0
 replace j:=j.mono (ro_le f1)
 replace o:=o.mono (ro_le f1)
 replace p:=p.mono (ro_le f1)
 replace q:=q.mono (ro_le f1)
 replace s:=s.trans f1
 refine w0n b (ia 17 (by kernel_rfl) (nxe [18,19,20,21] (by kernel_rfl) z ((ar z z z (cvb d)).trans z) ?_))
 clear b
 intro w b
 obtain ⟨t3,L7,L8,L9,b⟩:=b.er (E:=aA) (xs:=[t1]) [[.bool t1.Has,L6]] 61 1 z (bz.cons ⟨_,z,t2,oS (ag t2)⟩ bz.nil)
 refine bS (v:=(.slice (some ⟨t3,0,none⟩) 1 1)) (w':=L7) z (di (by kernel_rfl) L8 L9) (w0n b (ia 18 (by kernel_rfl) (nxe [19,20,21] (by kernel_rfl) z ((ar z z z (cvb d)).trans z) ?_)))
 clear b
 intro w b
 replace b:=b.ab
 obtain ⟨a65,t4,b⟩:=b.cx
 replace b:=b.ab
 obtain ⟨a66,t5,b⟩:=b.cx
 obtain ⟨a67,M0,c⟩:=bn c
 refine wec call78 [(.slice (some ⟨t0,0,none⟩) 1 1),(.slice (some ⟨t3,0,none⟩) 1 1)] z z (kca (eo (b.pG t4) (b.nf t5) b.to0 M0) fun a68 b=>?_)
 replace b:=(b.of0.ab.ba t4).ab.ba t5
 refine w0n b (sgz (.bool _) 19 z d z (sg (.bool _) 20 z F (fun w b=>aM d z z) (sh (.bool _) 21 z (fun w b=>aE F z z) (bi ?_))))
 intro w b
 refine ⟨z,?_⟩
 cases c
 exact ⟨_,_,e9,fy z,s,(aj (Pt f 0) a1 b.aW.aW.aW.aW ⟨z,j,o,p,q⟩).ap.cd⟩
}
 {
 refine nxe [8,16,17,18,19,20,21] (by kernel_rfl) z ((ar z z z (cvb d)).trans z) ?_
 clear b
 intro w b
 refine wec call90 [I6 B] z z (kca (ll b.to0 s8) fun a69 b=>?_)
 replace b:=b.of0
 refine wn [15,12,11,10,9,7] b (cX z (cT ((ar z z z (cvb d)).trans z) (fun w b=>z)) (cX z (cT ((ar z z z (cvb d)).trans z) (fun w b=>ao z isAgg124 (b.bc0 z))) (cX z (cT ((ar z z z (cvb d)).trans z) (fun w b=>aO z underlying130 z sizeOf124 z)) (cX z (cT ((ar z z z (cvb d)).trans z) (fun w b=>z)) (cX z (cT ((ar z z z (cvb d)).trans z) (fun w b=>z)) (cX z (cT ((ar z z z (cvb d)).trans z) (fun w b=>av (cs:=[.bool m.1.Has,J]) z isAgg61 sizeOf61 (b.xB 0 z))) bu)))))) ?_
 obtain ⟨c7,t6,c⟩:=bn c
 refine pC 8 16 (by kernel_rfl) ?_ ?_
 {
 refine nxe [16,17,18,19,20,21] (by kernel_rfl) z ((ar z z z (cvb d)).trans z) ?_
 clear b
 intro w b
 replace b:=b.cV
 obtain ⟨I7101,f2,t7,b⟩:=b.cK
 replace j:=j.mono (ro_le f2)
 replace o:=o.mono (ro_le f2)
 replace p:=p.mono (ro_le f2)
 replace q:=q.mono (ro_le f2)
 replace s:=s.trans f2
 obtain ⟨t8,M1,M2,M3,b⟩:=b.er (E:=aA) (xs:=[m.1]) [[.bool m.1.Has,J]] 61 1 z (bz.cons ⟨_,z,t7,oS (ag t7)⟩ bz.nil)
 refine bS (v:=(.slice (some ⟨t8,0,none⟩) 1 1)) (w':=M1) z (di (by kernel_rfl) M2 M3) (wn [15,12,11,10,9] b (cX z (cT ((ar z z z (cvb d)).trans z) (fun w b=>z)) (cX z (cT ((ar z z z (cvb d)).trans z) (fun w b=>ao z isAgg124 (b.bc1 z))) (cX z (cT ((ar z z z (cvb d)).trans z) (fun w b=>aO z underlying130 z sizeOf124 z)) (cX z (cT ((ar z z z (cvb d)).trans z) (fun w b=>z)) (cX z (cT ((ar z z z (cvb d)).trans z) (fun w b=>z)) bu))))) (ia 16 (by kernel_rfl) (nxe [17,18,19,20,21] (by kernel_rfl) z ((ar z z z (cvb d)).trans z) ?_)))
 clear b
 intro w b
 refine wec call80 [k6,F6 k9,U6 L] z z ((iM j b.to0 t6).mono ?_)
 rintro _ a70 ⟨I7110,M4,rfl,f3,t9,b⟩
 refine ⟨_,z,?_⟩
 replace b:=b.of0
 replace j:=j.mono (ro_le f3)
 replace o:=o.mono (ro_le f3)
 replace p:=p.mono (ro_le f3)
 replace q:=q.mono (ro_le f3)
 replace s:=s.trans f3
 refine w0n b (ia 17 (by kernel_rfl) (nxe [18,19,20,21] (by kernel_rfl) z ((ar z z z (cvb d)).trans z) ?_))
 clear b
 intro w b
 obtain ⟨u0,M5,M6,M7,b⟩:=b.er (E:=aA) (xs:=[c7]) [[.bool c7.Has,M4]] 61 1 z (bz.cons ⟨_,z,t9,oS (ag t9)⟩ bz.nil)
 refine bS (v:=(.slice (some ⟨u0,0,none⟩) 1 1)) (w':=M5) z (di (by kernel_rfl) M6 M7) (w0n b (ia 18 (by kernel_rfl) (nxe [19,20,21] (by kernel_rfl) z ((ar z z z (cvb d)).trans z) ?_)))
 clear b
 intro w b
 replace b:=b.ab
 obtain ⟨a71,u1,b⟩:=b.cx
 replace b:=b.ab
 obtain ⟨a72,u2,b⟩:=b.cx
 obtain ⟨a73,M8,c⟩:=bn c
 refine wec call78 [(.slice (some ⟨t8,0,none⟩) 1 1),(.slice (some ⟨u0,0,none⟩) 1 1)] z z (kca (eo (b.pG u1) (b.nf u2) b.to0 M8) fun a74 b=>?_)
 replace b:=(b.of0.ab.ba u1).ab.ba u2
 refine w0n b (sgz (.bool _) 19 z d z (sg (.bool _) 20 z F (fun w b=>aM d z z) (sh (.bool _) 21 z (fun w b=>aE F z z) (bi ?_))))
 intro w b
 refine ⟨z,?_⟩
 cases c
 exact ⟨_,_,e9,fy z,s,(aj (Pt f 0) a1 b.aW.aW.aW.aW ⟨z,j,o,p,q⟩).ap.cd⟩
}
 {
 refine nxe [8,17,18,19,20,21] (by kernel_rfl) z ((ar z z z (cvb d)).trans z) ?_
 clear b
 intro w b
 refine wec call80 [k6,F6 k9,U6 L] z z ((iM j b.to0 t6).mono ?_)
 rintro _ a75 ⟨I7131,u3,rfl,f4,c8,b⟩
 refine ⟨_,z,?_⟩
 replace b:=b.of0
 replace j:=j.mono (ro_le f4)
 replace o:=o.mono (ro_le f4)
 replace p:=p.mono (ro_le f4)
 replace q:=q.mono (ro_le f4)
 replace s:=s.trans f4
 refine wn [7] b (cX z (cT ((ar z z z (cvb d)).trans z) (fun w b=>av (cs:=[.bool m.1.Has,J]) z isAgg61 sizeOf61 (b.xB 0 z))) bu) (pC 8 17 (by kernel_rfl) ?_ ?_)
 {
 refine nxe [17,18,19,20,21] (by kernel_rfl) z ((ar z z z (cvb d)).trans z) ?_
 clear b
 intro w b
 replace b:=b.cV
 obtain ⟨I7137,c9,u4,b⟩:=b.cK
 replace j:=j.mono (ro_le c9)
 replace o:=o.mono (ro_le c9)
 replace p:=p.mono (ro_le c9)
 replace q:=q.mono (ro_le c9)
 replace c8:=c8.mono (ro_le c9)
 replace s:=s.trans c9
 obtain ⟨u5,M9,N0,N1,b⟩:=b.er (E:=aA) (xs:=[m.1]) [[.bool m.1.Has,J]] 61 1 z (bz.cons ⟨_,z,u4,oS (ag u4)⟩ bz.nil)
 refine bS (v:=(.slice (some ⟨u5,0,none⟩) 1 1)) (w':=M9) z (di (by kernel_rfl) N0 N1) (w0n b (ia 17 (by kernel_rfl) (nxe [18,19,20,21] (by kernel_rfl) z ((ar z z z (cvb d)).trans z) ?_)))
 clear b
 intro w b
 obtain ⟨u6,N2,N3,N4,b⟩:=b.er (E:=aA) (xs:=[c7]) [[.bool c7.Has,u3]] 61 1 z (bz.cons ⟨_,z,c8,oS (ag c8)⟩ bz.nil)
 refine bS (v:=(.slice (some ⟨u6,0,none⟩) 1 1)) (w':=N2) z (di (by kernel_rfl) N3 N4) (w0n b (ia 18 (by kernel_rfl) (nxe [19,20,21] (by kernel_rfl) z ((ar z z z (cvb d)).trans z) ?_)))
 clear b
 intro w b
 replace b:=b.ab
 obtain ⟨a76,u7,b⟩:=b.cx
 replace b:=b.ab
 obtain ⟨a77,u9,b⟩:=b.cx
 obtain ⟨a78,N5,c⟩:=bn c
 refine wec call78 [(.slice (some ⟨u5,0,none⟩) 1 1),(.slice (some ⟨u6,0,none⟩) 1 1)] z z (kca (eo (b.pG u7) (b.nf u9) b.to0 N5) fun a79 b=>?_)
 replace b:=(b.of0.ab.ba u7).ab.ba u9
 refine w0n b (sgz (.bool _) 19 z d z (sg (.bool _) 20 z F (fun w b=>aM d z z) (sh (.bool _) 21 z (fun w b=>aE F z z) (bi ?_))))
 intro w b
 refine ⟨z,?_⟩
 cases c
 exact ⟨_,_,e9,fy z,s,(aj (Pt f 0) a1 b.aW.aW.aW.aW ⟨z,j,o,p,q⟩).ap.cd⟩
}
 {
 refine nxe [8,18,19,20,21] (by kernel_rfl) z ((ar z z z (cvb d)).trans z) ?_
 clear b
 intro w b
 obtain ⟨v0,N6,N7,N8,b⟩:=b.er (E:=aA) (xs:=[c7]) [[.bool c7.Has,u3]] 61 1 z (bz.cons ⟨_,z,c8,oS (ag c8)⟩ bz.nil)
 refine bS (v:=(.slice (some ⟨v0,0,none⟩) 1 1)) (w':=N6) z (di (by kernel_rfl) N7 N8) (wn [7] b (cX z (cT ((ar z z z (cvb d)).trans z) (fun w b=>av (cs:=[.bool m.1.Has,J]) z isAgg61 sizeOf61 (b.CY 0 z))) bu) (ia 8 (by kernel_rfl) (nxe [18,19,20,21] (by kernel_rfl) z ((ar z z z (cvb d)).trans z) ?_)))
 clear b
 intro w b
 replace b:=b.aG
 obtain ⟨I7167,f5,v1,b⟩:=b.cK
 replace j:=j.mono (ro_le f5)
 replace o:=o.mono (ro_le f5)
 replace p:=p.mono (ro_le f5)
 replace q:=q.mono (ro_le f5)
 replace s:=s.trans f5
 obtain ⟨v2,N9,O0,O1,b⟩:=b.er (E:=aA) (xs:=[m.1]) [[.bool m.1.Has,J]] 61 1 z (bz.cons ⟨_,z,v1,oS (ag v1)⟩ bz.nil)
 refine bS (v:=(.slice (some ⟨v2,0,none⟩) 1 1)) (w':=N9) z (di (by kernel_rfl) O0 O1) (w0n b (ia 18 (by kernel_rfl) (nxe [19,20,21] (by kernel_rfl) z ((ar z z z (cvb d)).trans z) ?_)))
 clear b
 intro w b
 obtain ⟨a80,v3,b⟩:=b.cx
 replace b:=b.ab
 obtain ⟨a81,v4,b⟩:=b.cx
 obtain ⟨a82,O2,c⟩:=bn c
 refine wec call78 [(.slice (some ⟨v2,0,none⟩) 1 1),(.slice (some ⟨v0,0,none⟩) 1 1)] z z (kca (eo (b.pG v3) (b.nf v4) b.to0 O2) fun a83 b=>?_)
 replace b:=(b.of0.ab.ba v3).ab.ba v4
 refine w0n b (sgz (.bool _) 19 z d z (sg (.bool _) 20 z F (fun w b=>aM d z z) (sh (.bool _) 21 z (fun w b=>aE F z z) (bi ?_))))
 intro w b
 refine ⟨z,?_⟩
 cases c
 exact ⟨_,_,e9,fy z,s,(aj (Pt f 0) a1 b.aW.aW.aW.aW ⟨z,j,o,p,q⟩).ap.cd⟩
}
}
}
}
 {
 intro d c
 refine so 7 z d (so 8 z d (so 9 z d (so 10 z d (so 11 z d (so 12 z d (so 13 z d (so 14 z d (so 15 z d (so 16 z d (so 17 z d (so 18 z d (so 19 z d (sg (.bool _) 20 z F (fun w b=>aE d z z) (sh (.bool _) 21 z (fun w b=>aE F z z) (bi ?_)))))))))))))))
 intro w b
 refine ⟨z,?_⟩
 cases c
 exact ⟨_,false,e9,fy z,s,(aj (Pt f 0) a1 b.ap.ap.ap.ap ⟨z,j,o,p,q⟩).ab.cd⟩
}
}
}
 {
 rintro _ a84 ⟨I7185,k8,c,⟨a85,rfl⟩,O3,b⟩
 dsimp only [mP] at c
 replace g9:=g9.trans O3
 refine tn (bw c z ?_ ?_)
 {
 intro O4 c
 cases c
}
 {
 intro O4 c
 refine wp_skip (bB (tn (wrl (mi z (mi z (mi z (nt ?_)))))))
 cases c
 exact ⟨_,nls,_,_,s6,fy z,g9,b.ab.ab.cd⟩
}
}
}
}
 {
 intro K2 c
 refine wp_exit (aQ (aQ ?_))
 replace c:=bg c s6
 refine cZ (bB (tn (wrl (mi z (mi z (mi z (nt ?_)))))))
 cases c
 exact ⟨_,nls,_,_,n8,fy z,c3,b.ab.ab.cd⟩
}
}
}
}
 {
 intro E3 c
 refine wp_exit (aQ (aQ ?_))
 replace c:=bg c n8
 refine cZ (tn ?_)
 cases c
 exact ⟨_,E1,fy z,j4,b.ab.ab.cd⟩
}
}
 {
 rintro _ a86 ⟨I7193,c,⟨a87,rfl⟩,O5,b⟩
 dsimp only [qm] at c
 replace b0:=b0.trans O5
 refine wp_seq (ww (mi z (nt (wp_block ?_))))
 obtain ⟨O6,c⟩:=aS c
 refine bf (fun n a w=>∃ (I8017:HL) (i:Int),cP (li a0 a1) n i=some r∧fz 267 [0,1,16] [p0,Pt f 0,I6 i] a∧I7193.le I8017∧St w0 w I8017 [cE aD p0 a0,aL (Pt f 0) a1] R) O6 ⟨_,0,c,fy z,lr,b⟩ ?_
 rintro a88 _ a89 ⟨I8017,i,c,⟨a90,rfl⟩,K,b⟩
 obtain ⟨a91,v5,rfl,c,v6⟩:=aV c
 dsimp only [li] at c
 replace b0:=b0.trans K
 refine wp_seq (ww (mi z (mb z (nt (bw c z ?_ ?_)))))
 {
 intro O7 c
 refine wp_skip (tn (wp_seq (wp_block (wp_seq (wp_seq ?_)))))
 obtain ⟨a92,a93,a94,a95,a96,a97,a98,a99,⟨l0,O8,O9,P0,P1⟩,P2⟩:=bd b.ab
 replace l0:=dF l0
 subst l0
 have b:=P2
 refine rg b 23 [0,0,3,0,0,31,63,127,255,511,511,1535,4095,511,8703,25087,57855,511,131583,524287,1048575,2097151,4194303] [] mixed (sz (p0) 0 z z (si 1 z z (sp 3 z z (si 4 z z (e1 2 z z fun w b=>?_)))))
 replace b:=b.aY
 obtain ⟨b00,P3,c⟩:=bn c
 refine wec call15 [p0,I6 i] z z (kcb (tB b.to1 P3) fun P4 b01 b=>?_)
 replace b:=b.of2
 refine wn [4,3] b (pz (pz bu)) (e1 5 z z fun w b=>?_)
 replace b:=aj (Pt f 0) a1 b.aW.aW.aW.aW ⟨z,O8,O9,P0,P1⟩
 obtain ⟨b02,P5,c⟩:=bn c
 refine wec call92 [Pt f 0,I6 i] z z (kcb (tw b.to1 P5) fun P6 b03 b=>?_)
 replace b:=b.of2
 refine w0n b (e1 6 z z fun w b=>?_)
 replace b:=b.ay
 obtain ⟨I8061,P7,l1,b⟩:=b.cK
 replace K:=K.trans P7
 obtain ⟨I8064,v7,P8,b⟩:=b.cK
 replace l1:=l1.mono (ro_le v7)
 replace K:=K.trans v7
 obtain ⟨b04,P9,c⟩:=bn c
 refine wec call91 [P4,P6] z z (kca (sN l1 P8 b.to0 P9) fun b05 b=>?_)
 obtain ⟨b06,b07,b08,v8,b09,b10,b11,b12,⟨l2,V,W,O,X⟩,Q0⟩:=bd b.of0
 replace l2:=dF l2
 subst l2
 have b:=Q0
 refine w0n b (sb 7 z z (sb 8 z z (bs c ?_ ?_)))
 {
 intro l c
 cases c
}
 {
 intro l c
 refine sgz p0 9 z l z (sgz (I6 _) 10 z l z (sgk (.int .u64 (u64.wrap i)) 11 z l (sgz (Pt _ _) 13 z l z (sgz (Pt _ _) 14 z l z (sg _ 15 z l (fun w b=>aO z underlying130 z sizeOf126 z) (sg _ 16 z l (fun w b=>ao z isAgg126 (b.bc0 z)) (sgz (I6 _) 17 z l z (sgk (.int .u64 (u64.wrap i)) 18 z l (ia 12 (by kernel_rfl) (nxe [19,20,21,22] (by kernel_rfl) z ((ar z z z (cvb l)).trans z) ?_))))))))))
 clear b
 intro w b
 replace b:=b.aY
 obtain ⟨v9,Q1,c⟩:=bn c
 refine wec call22 [p0,U6 (u64.wrap i)] z z (kca (sZ b.to1 Q1) fun b13 b=>?_)
 replace b:=b.of1
 refine wn [18,17,16,15,14,13] b (cX z (cT ((ar z z z (cvb l)).trans z) (fun w b=>by kernel_rfl)) (cX z (cT ((ar z z z (cvb l)).trans z) (fun w b=>z)) (cX z (cT ((ar z z z (cvb l)).trans z) (fun w b=>ao z isAgg126 (b.bc1 z))) (cX z (cT ((ar z z z (cvb l)).trans z) (fun w b=>aO z underlying130 z sizeOf126 z)) (cX z (cT ((ar z z z (cvb l)).trans z) (fun w b=>z)) (cX z (cT ((ar z z z (cvb l)).trans z) (fun w b=>z)) bu)))))) (ia 19 (by kernel_rfl) (nxe [20,21,22] (by kernel_rfl) z ((ar z z z (cvb l)).trans z) ?_))
 clear b
 intro w b
 obtain ⟨l3,Q2,c⟩:=bn c
 refine wec call93 [v8,U6 (u64.wrap i)] z z ((lI O b.to0 Q2).mono ?_)
 rintro _ b14 ⟨I8101,b15,b16,rfl,f6,Q3,Q4,b⟩
 refine ⟨_,z,?_⟩
 replace b:=b.of0
 replace V:=V.mono (ro_le f6)
 replace W:=W.mono (ro_le f6)
 replace O:=O.mono (ro_le f6)
 replace X:=X.mono (ro_le f6)
 replace K:=K.trans f6
 refine w0n b (wH (v:=.int .u64 l3.Seq) 20 [21,22] (by kernel_rfl) rfl rfl (cT ((ar rfl rfl rfl (cvb l)).trans rfl) (fun w b=>by obtain ⟨_,_,hv_,_⟩:=(ag Q4); rw [hv_]; obtain ⟨_,_,hv_,_⟩:=(ag Q3); rw [hv_]; kernel_rfl)) (wH (v:=.bool (v9 !=l3.Seq)) 21 [22] (by kernel_rfl) rfl rfl (cT ((ar rfl rfl rfl (cvb l)).trans rfl) (fun w b=>rfl)) (wsr (.bool (v9 !=l3.Seq)) 22 rfl rfl rfl (by kernel_rfl) (fun w b=>aE l rfl rfl) (bi ?_))))
 intro w b
 refine tn (bw c z ?_ ?_)
 {
 intro Q5 c
 cases c
}
 {
 intro Q5 c
 refine wp_skip (tn (ww (mp z (mp z (mf z underlying130 z sizeOf126 (ml z isAgg126 (b.bc1 z) (mi z (mk (.int .u64 (u64.wrap i)) ?_))))))))
 obtain ⟨Y,Q6,c⟩:=bn c
 refine wc call93 [v8,U6 (u64.wrap i)] z z z ((lI O b.to0 Q6).mono ?_)
 rintro _ b17 ⟨I8113,x0,x1,rfl,f7,h0,h1,b⟩
 refine ⟨_,z,?_⟩
 replace b:=b.of0
 replace V:=V.mono (ro_le f7)
 replace W:=W.mono (ro_le f7)
 replace O:=O.mono (ro_le f7)
 replace X:=X.mono (ro_le f7)
 replace K:=K.trans f7
 obtain ⟨b18,b19,Q7,Q8,b⟩:=b.box [Zu,Zu,Zi,Zu,Zu,Zs,Zs] 164
 refine wa Q7 Q8 (bxk b z sizeOf164 (oJ 5 z (oC (oS (ag h0)) (oC (oS (ag h1)) oN))) fun b20 b=>nt (ww (mv (p0) z (mi z (mk (.int .u64 (u64.wrap i)) (mf z underlying164 z sizeOf26 (ml z isAgg26 (b.bc0 z) (mk (.agg #[U6 (u64.wrap i),U6 Y.Seq]) ?_))))))))
 replace b:=b.ab
 obtain ⟨G,Q9,c⟩:=bn c
 refine wc call37 [p0,.agg #[U6 (u64.wrap i),U6 Y.Seq]] z z z ((ry b.to1 Q9).mono ?_)
 rintro _ b21 ⟨I8133,h2,h3,rfl,b1,x2,x3,b⟩
 refine ⟨_,z,?_⟩
 replace b:=b.of1
 replace V:=V.mono (ro_le b1)
 replace W:=W.mono (ro_le b1)
 replace O:=O.mono (ro_le b1)
 replace X:=X.mono (ro_le b1)
 replace h0:=h0.mono (ro_le b1)
 replace h1:=h1.mono (ro_le b1)
 replace K:=K.trans b1
 refine mv (.tuple #[.agg #[I6 G.1.E,U6 G.1.Epoch,U6 G.1.Index,h2,h3],I6 G.2]) z (mv (.agg #[I6 G.1.E,U6 G.1.Epoch,U6 G.1.Index,h2,h3]) z (mi z ?_))
 obtain ⟨b22,b23,S0,S1,b⟩:=b.box [Zi,Zu,Zu,Zs,Zs] 33
 refine wa S0 S1 (bxk b z sizeOf33 (oJ 3 z (oC (oS (ag x2)) (oC (oS (ag x3)) oN))) fun b24 b=>mi z (nt ?_))
 obtain ⟨b25,c,x4⟩:=dY c
 refine cQ (fun a w =>(nG a0 i a1) ()=some v5∧fz 267 [0,1,16] [p0,Pt f 0,I6 i] a∧St w0 w I8133 [cE aD p0 a0,aL (Pt f 0) a1] R) ?_ ?_
 {
 refine ww (mf z underlying164 z sizeOf26 (ml z isAgg26 (b.bc2 z) (mb z (mb z (bs c ?_ ?_)))))
 {
 intro M c
 refine gi M z (gb M z (gb M z (bs c ?_ ?_)))
 {
 intro b2 c
 cases c
}
 {
 intro b2 c
 refine gg b2 (av (cs:=[I6 G.1.E,U6 G.1.Epoch,U6 G.1.Index,h2,h3]) z isAgg33 sizeOf33 (b.eD 0 z)) (gg b2 (aO z underlying164 z sizeOf33 z) (gg b2 (av (cs:=[I6 Y.R.E,U6 Y.R.Epoch,U6 Y.R.Index,x0,x1]) z isAgg33 sizeOf33 (b.pQ 2 z)) ?_))
 obtain ⟨b26,S2,c⟩:=bn c
 refine de ((ar z z z (cvb b2)).trans z) z (js call32 z (vs:=[.agg #[I6 G.1.E,U6 G.1.Epoch,U6 G.1.Index,h2,h3],.agg #[I6 Y.R.E,U6 Y.R.Epoch,U6 Y.R.Index,x0,x1]]) z) (kca (oP (x2.mono cz) (x3.mono cz) (h0.mono cz) (h1.mono cz) b.to0 S2) fun b27 b=>?_)
 replace b:=b.of0
 refine gb b2 z (gb M (aE b2 z z) (mb (aM M z z) (nt (bw c z ?_ ?_))))
 {
 intro S3 c
 cases c
}
 {
 intro S3 c
 refine wp_skip (tn ?_)
 cases c
 exact ⟨x4,fy z,(aj (Pt f 0) a1 b.cV.cV.cV.cV ⟨z,V,W,O,X⟩).ay.cd⟩
}
}
}
 {
 intro M c
 refine go M (go M (go M (gu (gu (gu (gu (gu (go M (mb (aE M z z) (nt (bT z (wp_skip (tn ?_)))))))))))))
 cases c
 exact ⟨x4,fy z,(aj (Pt f 0) a1 b.cV.cV.cV.cV ⟨z,V,W,O,X⟩).ay.cd⟩
}
}
 {
 rintro _ b28 ⟨c,⟨b29,rfl⟩,b⟩
 dsimp only [nG] at c
 refine ww (mi z (nt (wp_block ?_)))
 obtain ⟨S4,c⟩:=aS c
 refine bf (fun n a w=>∃ (Q:Int),cP (iX a0 i a1) n Q=some v5∧fz 267 [0,1,16,20] [p0,Pt f 0,I6 i,U6 Q] a∧St w0 w I8133 [cE aD p0 a0,aL (Pt f 0) a1] R) S4 ⟨0,c,fy z,b⟩ ?_
 rintro b30 _ b31 ⟨Q,c,⟨b32,rfl⟩,b⟩
 obtain ⟨b33,x5,rfl,c,l4⟩:=aV c
 dsimp only [iX] at c
 refine wp_seq (ww (mi z (mb z (nt (bw c z ?_ ?_)))))
 {
 intro S5 c
 refine wp_skip (tn (wp_seq (wp_block (ww (mv (p0) z (mi z (mk (.int .u64 (u64.wrap i)) (mi z ?_))))))))
 obtain ⟨g,S6,c⟩:=bn c
 refine wc call94 [p0,U6 (u64.wrap i),U6 Q] z z z (kca (td b.to1 S6) fun b34 b=>?_)
 replace b:=b.of1
 refine mv (.tuple #[.agg #[U6 g.1.ID,I6 g.1.From,I6 g.1.To,F6 g.1.Lo,F6 g.1.Hi,U6 g.1.Authority,I6 g.1.Quota],I6 g.2]) z (mv (.agg #[U6 g.1.ID,I6 g.1.From,I6 g.1.To,F6 g.1.Lo,F6 g.1.Hi,U6 g.1.Authority,I6 g.1.Quota]) z (mi z ?_))
 obtain ⟨h4,b35,S7,S8,b⟩:=b.box [Zu,Zi,Zi,Zf,Zf,Zu,Zi] 39
 refine wa S7 S8 (bxk b z sizeOf39 (oJ 7 z oN) fun b36 b=>mi z (nt (ww (mp z ?_))))
 obtain ⟨b37,b38,b39,b40,S9,b41,b42,b43,⟨l5,x6,x7,x8,l6⟩,T0⟩:=bd b.ay
 replace l5:=dF l5
 subst l5
 have b:=T0
 refine mp z (mf z underlying130 z sizeOf127 (ml z isAgg127 (b.bc0 z) (mi z (mk (.int .u64 (u64.wrap i)) (mi z ?_)))))
 obtain ⟨h,T1,c⟩:=bn c
 refine wc call95 [S9,U6 (u64.wrap i),U6 Q] z z z (kca (xD (l6.mono cz) b.to0 T1) fun b44 b=>?_)
 replace b:=b.of0
 refine mv (.tuple #[.agg #[U6 h.1.ID,I6 h.1.From,I6 h.1.To,F6 h.1.Lo,F6 h.1.Hi,U6 h.1.Authority,I6 h.1.Quota],.bool h.2]) z (mv (.agg #[U6 h.1.ID,I6 h.1.From,I6 h.1.To,F6 h.1.Lo,F6 h.1.Hi,U6 h.1.Authority,I6 h.1.Quota]) z (mb z ?_))
 obtain ⟨h5,b45,T2,T3,b⟩:=b.box [Zu,Zi,Zi,Zf,Zf,Zu,Zi] 39
 refine wa T2 T3 (bxk b z sizeOf39 (oJ 7 z oN) fun b46 b=>mb z (nt (ww (mi z (nt ?_)))))
 obtain ⟨b47,c,x9⟩:=bn c
 refine cQ (fun a w=>∃ (h6:Int),(kh Q a1 g h) h6=some x5∧fz 267 [0,1,16,20,21,22,23,25] [p0,Pt f 0,I6 i,U6 Q,Pt h4 0,I6 g.2,Pt h5 0,I6 h6] a∧St w0 w I8133 [cE aD p0 a0,aL (Pt f 0) a1,cells h4 [U6 g.1.ID,I6 g.1.From,I6 g.1.To,F6 g.1.Lo,F6 g.1.Hi,U6 g.1.Authority,I6 g.1.Quota],cells h5 [U6 h.1.ID,I6 h.1.From,I6 h.1.To,F6 h.1.Lo,F6 h.1.Hi,U6 h.1.Authority,I6 h.1.Quota]] R) ?_ ?_
 {
 refine ww (mb z (mb z (nt (bw c z ?_ ?_))))
 {
 intro T4 c
 refine wrl (mi z (nt ?_))
 cases c
 exact ⟨_,x9,fy z,(aj (Pt f 0) a1 b.aY.aY.aY.aY ⟨z,x6,x7,x8,l6⟩).ab.ay.ay.ap.eF⟩
}
 {
 intro T4 c
 refine wp_skip (tn ?_)
 cases c
 exact ⟨_,x9,fy z,(aj (Pt f 0) a1 b.aY.aY.aY.aY ⟨z,x6,x7,x8,l6⟩).ab.ay.ay.ap.eF⟩
}
}
 {
 rintro _ b48 ⟨h6,c,⟨b49,rfl⟩,b⟩
 dsimp only [kh] at c
 obtain ⟨b50,c,y0⟩:=bn c
 refine cQ (fun a w=>∃ (l7:Int),(ke g h Q) l7=some x5∧fz 267 [0,1,16,20,21,22,23,25] [p0,Pt f 0,I6 i,U6 Q,Pt h4 0,I6 g.2,Pt h5 0,I6 l7] a∧St w0 w I8133 [cE aD p0 a0,aL (Pt f 0) a1,cells h4 [U6 g.1.ID,I6 g.1.From,I6 g.1.To,F6 g.1.Lo,F6 g.1.Hi,U6 g.1.Authority,I6 g.1.Quota],cells h5 [U6 h.1.ID,I6 h.1.From,I6 h.1.To,F6 h.1.Lo,F6 h.1.Hi,U6 h.1.Authority,I6 h.1.Quota]] R) ?_ ?_
 {
 refine ww (mi z (mp z ?_))
 obtain ⟨b51,b52,b53,b54,b55,b56,b57,b58,⟨l8,y1,y2,y3,y4⟩,T5⟩:=bd b.ab
 replace l8:=dF l8
 subst l8
 have b:=T5
 refine mp z (mf z underlying130 z sizeOf26 (ml z isAgg26 (b.bc0 z) (mb z (nt (bw c z ?_ ?_)))))
 {
 intro T6 c
 refine wrl (mi z (nt ?_))
 cases c
 exact ⟨_,y0,fy z,(aj (Pt f 0) a1 b.ap.ap.ap.ap ⟨z,y1,y2,y3,y4⟩).ap.ap.ay.ap.eF⟩
}
 {
 intro T6 c
 refine wp_skip (tn ?_)
 cases c
 exact ⟨h6,y0,fy z,(aj (Pt f 0) a1 b.ap.ap.ap.ap ⟨z,y1,y2,y3,y4⟩).ap.ap.ay.ap.eF⟩
}
}
 {
 rintro _ b59 ⟨l7,c,⟨b60,rfl⟩,b⟩
 dsimp only [ke] at c
 refine ww (mi z (mi z (mb z (mb z (bs c ?_ ?_)))))
 {
 intro Z c
 cases c
}
 {
 intro Z c
 refine gi Z z (gb Z z (gb Z z (bs c ?_ ?_)))
 {
 intro N c
 refine gg N (av (cs:=[U6 g.1.ID,I6 g.1.From,I6 g.1.To,F6 g.1.Lo,F6 g.1.Hi,U6 g.1.Authority,I6 g.1.Quota]) z isAgg39 sizeOf39 (b.pQ 0 z)) (gg N (av (cs:=[U6 h.1.ID,I6 h.1.From,I6 h.1.To,F6 h.1.Lo,F6 h.1.Hi,U6 h.1.Authority,I6 h.1.Quota]) z isAgg39 sizeOf39 (b.rU 0 z)) ?_)
 obtain ⟨b61,T7,c⟩:=bn c
 refine de ((ar z z z (cvb N)).trans z) z (js call96 z (vs:=[.agg #[U6 g.1.ID,I6 g.1.From,I6 g.1.To,F6 g.1.Lo,F6 g.1.Hi,U6 g.1.Authority,I6 g.1.Quota],.agg #[U6 h.1.ID,I6 h.1.From,I6 h.1.To,F6 h.1.Lo,F6 h.1.Hi,U6 h.1.Authority,I6 h.1.Quota]]) z) (kca (tD b.to0 T7) fun b62 b=>?_)
 replace b:=b.of0
 refine gb N z (gb Z (aM N z z) (mb (aE Z z z) (nt (bw c z ?_ ?_))))
 {
 intro T8 c
 cases c
}
 {
 intro T8 c
 refine wp_skip (bB (tn (wrl (mi z (mi z (mi z (nt ?_)))))))
 cases c
 exact ⟨_,nls,_,l4,fy z,b.ab.ab.cd⟩
}
}
 {
 intro N c
 refine go N (go N (go N (go N (gb Z (aE N z z) (mb (aE Z z z) (nt (bT z (wp_skip (bB (tn (wrl (mi z (mi z (mi z (nt ?_)))))))))))))))
 cases c
 exact ⟨_,nls,_,l4,fy z,b.ab.ab.cd⟩
}
}
}
}
}
 {
 intro S5 c
 refine wp_exit (aQ (aQ ?_))
 replace c:=bg c l4
 refine cZ (bB (tn (wrl (mi z (mi z (mi z (nt ?_)))))))
 cases c
 exact ⟨_,nls,_,_,v6,fy z,K,b.ab.ab.cd⟩
}
}
}
}
}
 {
 intro O7 c
 refine wp_exit (aQ (aQ ?_))
 replace c:=bg c v6
 refine cZ (tn (ww (mb z (nt (wp_ret ?_)))))
 cases c
 exact aU [.bool true] results40 (rc z ah) ⟨_,z,b0,b.ab.ab.cd⟩
}
}
}
}
}
}
}
}
theorem sV {a0:(List Int)} {y:Value} {a1:Int} (F:Ro (cg .u8) I y a0) (b:St w0 w I [] R) {r:(Bool)} (d:mR a0 a1=some r) :
  Calls prog 10 #[y,U1 a1] w fun e w'=>∃ (I':HL),e = .returned (.bool r)∧I.le I'∧St w0 w' I' [] R:=by {
 unfold mR at d
 refine c0 func10 z ntmps10 ?_
 have k:=HL.le.refl I
 refine ww (mb z (nt (wp_seq (ww ?_))))
 obtain ⟨f2,b6,d⟩:=bn d
 refine wc call12 [] z z z ((oK b.to0 b6).mono ?_)
 rintro _ f3 ⟨I351,rfl,b2,b⟩
 refine ⟨_,z,?_⟩
 replace b:=b.of0
 replace F:=F.mono (ro_le b2)
 replace k:=k.trans b2
 refine mb z (mb z (bs d ?_ ?_))
 {
 intro m d
 refine go m (go m (go m (mb (aM m z z) (nt (dq z (ww ?_))))))
 obtain ⟨b7,b8,d⟩:=bn d
 refine wc call12 [] z z z ((oK b.to0 b8).mono ?_)
 rintro _ f4 ⟨I357,rfl,b9,b⟩
 refine ⟨_,z,?_⟩
 replace b:=b.of0
 replace k:=k.trans b9
 refine mb z (nt (wp_ret (aI ?_)))
 obtain rfl:=sj d
 exact aU [.bool b7] results10 (rc z ah) ⟨_,z,k,b.bQ⟩
}
 {
 intro m d
 refine gv (y) m z (gg m (bW z underlying22 (ag F)) (gb m z (mb (aE m z z) (nt (bw d z ?_ ?_)))))
 {
 intro c1 d
 refine ww ?_
 obtain ⟨c2,c3,d⟩:=bn d
 refine wc call12 [] z z z ((oK b.to0 c3).mono ?_)
 rintro _ f5 ⟨I363,rfl,c4,b⟩
 refine ⟨_,z,?_⟩
 replace b:=b.of0
 replace k:=k.trans c4
 refine mb z (nt (wp_ret (aI ?_)))
 obtain rfl:=sj d
 exact aU [.bool c2] results10 (rc z ah) ⟨_,z,k,b.bQ⟩
}
 {
 intro c1 d
 refine wp_skip (tn (ww (mv (y) z (wv (.agg #[y,Zi]) z z (by obtain ⟨_,_,hv_,_⟩:=(ag F); rw [hv_]; kernel_rfl) ?_))))
 obtain ⟨S,f6,c5,c6,b⟩:=b.box [y,Zi] 74
 refine wa c5 c6 (mp z (nt (ww (mi z (mk (.int .i64 (i64.wrap a1)) (mi (yM (by decide) z z) ?_))))))
 obtain ⟨c7,c8,d⟩:=bn d
 refine wc call13 [I6 (Int.tmod (i64.wrap a1) 6)] z z z (kcb (ua b.to0 c8) fun s f7 b=>?_)
 replace b:=b.of1
 refine mv (s) z (nt (ww (mi z (mk (.int .i64 (i64.wrap a1)) (mi (yM (by decide) z z) ?_)))))
 obtain ⟨c9,d0,d⟩:=bn d
 refine wc call26 [I6 (Int.tmod (i64.wrap a1) 6)] z z z (kcb (wD b.to0 d0) fun t f8 b=>?_)
 replace b:=b.of1
 refine mv (t) z (nt (wp_seq (ww (mi z (nt (wp_block ?_))))))
 replace b:=mn (Pt S 0) (({L:=a0,I:=0}:ak)) b.ay ⟨z,F⟩
 obtain ⟨d1,d⟩:=aS d
 refine bf (fun n a w=>∃ (I587:HL) (V:ak) (W:ae) (X:ai) (u:Int),cP (ji) n (V,W,X,u)=some r∧fz 55 [5,6,7,8] [Pt S 0,s,t,I6 u] a∧I351.le I587∧St w0 w I587 [bC (Pt S 0) V,aL t X,aD s W] R) d1 ⟨_,({L:=a0,I:=0}:ak),c7,c9,0,d,fy z,lr,b⟩ ?_
 rintro f9 _ g0 ⟨I587,V,W,X,u,d,⟨g1,rfl⟩,f,b⟩
 obtain ⟨g2,g3,rfl,d,b3⟩:=aV d
 dsimp only [ji] at d
 replace k:=k.trans f
 refine wp_seq (ww (mi z (mb z (nt (bw d z ?_ ?_)))))
 {
 intro d2 d
 refine wp_skip (tn (wp_seq (wp_block (ww (mp z ?_)))))
 obtain ⟨c,d3,d⟩:=bn d
 refine wc call38 [Pt S 0] z z z ((te b.to1 d3).mono ?_)
 rintro _ g4 ⟨I600,G,H,J,K,M,N,O,P,rfl,d4,b⟩
 refine ⟨_,z,?_⟩
 replace b:=b.of9
 replace f:=f.trans d4
 obtain ⟨g5,g6,d5,d6,b⟩:=b.box [Zb,Zu,Zu,Zu,Zu,Zi,Zu,Zu,Zu,Zs,Zs,Zs,Zs,Zs,Zi,Zu,Zu,Zs,Zs,Zu,Zs,Zu,Zi,Zi,Zf,Zf,Zu,Zi,.bool false] 49
 refine wa d5 d6 (bxk b z sizeOf49 (oJ 9 z (oC (oS b.sv1) (oC (oS b.sv2) (oC (oS b.sv3) (oC (oS b.sv4) (oC (oS b.sv5) (oJ 3 z (oC (oS b.sv6) (oC (oS b.sv7) (oC z (oC (oS b.sv8) (oJ 8 z oN)))))))))))) fun g7 b=>nt (wp_seq (rg b 20 [0,0,2,6,0,31,0,0,128,384,0,2047,4095,8191,16383,32767,32767,131071,262143,524287] [] mixed (sz (s) 0 z z (si 1 z z (si 2 z z (sk (.int .u64 (u64.wrap (i64.wrap (u+1)))) 3 z (sh _ 4 z (fun w b=>av (cs:=[U1 c.1.Kind,U6 c.1.ID.Session,U6 c.1.ID.Seq,U6 c.1.Epoch,U6 c.1.Index,I6 c.1.E,U6 c.1.Hold.ID.Session,U6 c.1.Hold.ID.Seq,U6 c.1.Hold.Epoch,G,H,J,K,M,I6 c.1.R.E,U6 c.1.R.Epoch,U6 c.1.R.Index,N,O,U6 c.1.Shards,P,U6 c.1.Rule.ID,I6 c.1.Rule.From,I6 c.1.Rule.To,F6 c.1.Rule.Lo,F6 c.1.Rule.Hi,U6 c.1.Rule.Authority,I6 c.1.Rule.Quota,.bool c.1.On]) z isAgg49 sizeOf49 (b.eD 0 z)) (sz (t) 6 z z (si 7 z z (si 8 z z (sk (.int .u64 (u64.wrap (i64.wrap (u+1)))) 9 z (sh _ 10 z (fun w b=>av (cs:=[U1 c.1.Kind,U6 c.1.ID.Session,U6 c.1.ID.Seq,U6 c.1.Epoch,U6 c.1.Index,I6 c.1.E,U6 c.1.Hold.ID.Session,U6 c.1.Hold.ID.Seq,U6 c.1.Hold.Epoch,G,H,J,K,M,I6 c.1.R.E,U6 c.1.R.Epoch,U6 c.1.R.Index,N,O,U6 c.1.Shards,P,U6 c.1.Rule.ID,I6 c.1.Rule.From,I6 c.1.Rule.To,F6 c.1.Rule.Lo,F6 c.1.Rule.Hi,U6 c.1.Rule.Authority,I6 c.1.Rule.Quota,.bool c.1.On]) z isAgg49 sizeOf49 (b.eD 0 z)) ?_)))))))))))))
 refine e1 5 z z fun w b=>?_
 replace b:=(aJ b.nV).ay
 obtain ⟨I633,d7,g,b⟩:=b.cK
 replace f:=f.trans d7
 replace b:=b.ay
 obtain ⟨I636,b4,h,b⟩:=b.cK
 replace g:=g.mono (ro_le b4)
 replace f:=f.trans b4
 replace b:=b.ay
 obtain ⟨I639,Y,i,b⟩:=b.cK
 replace g:=g.mono (ro_le Y)
 replace h:=h.mono (ro_le Y)
 replace f:=f.trans Y
 replace b:=b.ay
 obtain ⟨I642,T,j,b⟩:=b.cK
 replace g:=g.mono (ro_le T)
 replace h:=h.mono (ro_le T)
 replace i:=i.mono (ro_le T)
 replace f:=f.trans T
 replace b:=b.ay
 obtain ⟨I645,Q,l,b⟩:=b.cK
 replace g:=g.mono (ro_le Q)
 replace h:=h.mono (ro_le Q)
 replace i:=i.mono (ro_le Q)
 replace j:=j.mono (ro_le Q)
 replace f:=f.trans Q
 replace b:=b.ay
 obtain ⟨I648,A,p,b⟩:=b.cK
 replace g:=g.mono (ro_le A)
 replace h:=h.mono (ro_le A)
 replace i:=i.mono (ro_le A)
 replace j:=j.mono (ro_le A)
 replace l:=l.mono (ro_le A)
 replace f:=f.trans A
 replace b:=b.ay
 obtain ⟨I651,v,B,b⟩:=b.cK
 replace g:=g.mono (ro_le v)
 replace h:=h.mono (ro_le v)
 replace i:=i.mono (ro_le v)
 replace j:=j.mono (ro_le v)
 replace l:=l.mono (ro_le v)
 replace p:=p.mono (ro_le v)
 replace f:=f.trans v
 replace b:=b.ay
 obtain ⟨I654,q,U,b⟩:=b.cK
 replace g:=g.mono (ro_le q)
 replace h:=h.mono (ro_le q)
 replace i:=i.mono (ro_le q)
 replace j:=j.mono (ro_le q)
 replace l:=l.mono (ro_le q)
 replace p:=p.mono (ro_le q)
 replace B:=B.mono (ro_le q)
 replace f:=f.trans q
 obtain ⟨x,d8,d⟩:=bn d
 refine wec call14 [s,U6 (u64.wrap (i64.wrap (u+1))),.agg #[U1 c.1.Kind,U6 c.1.ID.Session,U6 c.1.ID.Seq,U6 c.1.Epoch,U6 c.1.Index,I6 c.1.E,U6 c.1.Hold.ID.Session,U6 c.1.Hold.ID.Seq,U6 c.1.Hold.Epoch,G,H,J,K,M,I6 c.1.R.E,U6 c.1.R.Epoch,U6 c.1.R.Index,N,O,U6 c.1.Shards,P,U6 c.1.Rule.ID,I6 c.1.Rule.From,I6 c.1.Rule.To,F6 c.1.Rule.Lo,F6 c.1.Rule.Hi,U6 c.1.Rule.Authority,I6 c.1.Rule.Quota,.bool c.1.On]] z z ((oF g h i j l p B U b.to1 d8).mono ?_)
 rintro _ g8 ⟨I660,d9,e0,rfl,o,Z,b0,b⟩
 refine ⟨_,z,?_⟩
 replace b:=b.of1
 replace g:=g.mono (ro_le o)
 replace h:=h.mono (ro_le o)
 replace i:=i.mono (ro_le o)
 replace j:=j.mono (ro_le o)
 replace l:=l.mono (ro_le o)
 replace p:=p.mono (ro_le o)
 replace B:=B.mono (ro_le o)
 replace U:=U.mono (ro_le o)
 replace f:=f.trans o
 rcases b5:x.2 with _ | e2
 · rw [b5] at d; cases d
 rw [b5] at d b; dsimp only at d; replace b:=bD b
 refine wn [10,9,8,7,6] b (pkr z z (fun w b=>av (cs:=[U1 c.1.Kind,U6 c.1.ID.Session,U6 c.1.ID.Seq,U6 c.1.Epoch,U6 c.1.Index,I6 c.1.E,U6 c.1.Hold.ID.Session,U6 c.1.Hold.ID.Seq,U6 c.1.Hold.Epoch,G,H,J,K,M,I6 c.1.R.E,U6 c.1.R.Epoch,U6 c.1.R.Index,N,O,U6 c.1.Shards,P,U6 c.1.Rule.ID,I6 c.1.Rule.From,I6 c.1.Rule.To,F6 c.1.Rule.Lo,F6 c.1.Rule.Hi,U6 c.1.Rule.Authority,I6 c.1.Rule.Quota,.bool c.1.On]) z isAgg49 sizeOf49 (b.eI 0 z)) (pkr z z (fun w b=>by kernel_rfl) (pz (pz (pz bu))))) (e1 11 z z fun w b=>?_)
 replace b:=b.ap
 obtain ⟨C,e3,d⟩:=bn d
 refine wec call30 [t,U6 (u64.wrap (i64.wrap (u+1))),.agg #[U1 c.1.Kind,U6 c.1.ID.Session,U6 c.1.ID.Seq,U6 c.1.Epoch,U6 c.1.Index,I6 c.1.E,U6 c.1.Hold.ID.Session,U6 c.1.Hold.ID.Seq,U6 c.1.Hold.Epoch,G,H,J,K,M,I6 c.1.R.E,U6 c.1.R.Epoch,U6 c.1.R.Index,N,O,U6 c.1.Shards,P,U6 c.1.Rule.ID,I6 c.1.Rule.From,I6 c.1.Rule.To,F6 c.1.Rule.Lo,F6 c.1.Rule.Hi,U6 c.1.Rule.Authority,I6 c.1.Rule.Quota,.bool c.1.On]] z z ((rA g h i j l p B U b.to1 e3).mono ?_)
 rintro _ g9 ⟨I673,e4,e5,rfl,b1,e6,e7,b⟩
 refine ⟨_,z,?_⟩
 replace b:=b.of1
 replace Z:=Z.mono (ro_le b1)
 replace b0:=b0.mono (ro_le b1)
 replace f:=f.trans b1
 refine w0n b (e1 12 z z fun w b=>?_)
 obtain ⟨h0,e8,d⟩:=bn d
 refine wec call39 [.agg #[U1 x.1.Kind,U6 x.1.ID.Session,U6 x.1.ID.Seq,I6 x.1.R.E,U6 x.1.R.Epoch,U6 x.1.R.Index,d9,e0],.agg #[U1 C.1.Kind,U6 C.1.ID.Session,U6 C.1.ID.Seq,I6 C.1.R.E,U6 C.1.R.Epoch,U6 C.1.R.Index,e4,e5]] z z (kca (rH (Z.mono cz) (b0.mono cz) (e6.mono cz) (e7.mono cz) b.to0 e8) fun h1 b=>?_)
 replace b:=b.of0
 refine w0n b (sb 13 z z (sb 14 z z (bs d ?_ ?_)))
 {
 intro D d
 cases d
}
 {
 intro D d
 refine sgz s 15 z D z (sgz t 16 z D z (ia 17 (by kernel_rfl) (nxe [18,19] (by kernel_rfl) z ((ar z z z (cvb D)).trans z) ?_)))
 clear b
 intro w b
 replace b:=(aJ b.ab).ab.ab
 obtain ⟨h2,e9,d⟩:=bn d
 refine wec call40 [s,t] z z ((vN b.to2 e9).mono ?_)
 rintro _ h3 ⟨I690,rfl,f0,b⟩
 refine ⟨_,z,?_⟩
 replace b:=b.of2
 replace f:=f.trans f0
 replace b:=bD b
 refine w0n b (sgz (.bool _) 18 z D z (sh (.bool _) 19 z (fun w b=>aE D z z) (bi ?_)))
 intro w b
 refine tn (bw d z ?_ ?_)
 {
 intro f1 d
 cases d
}
 {
 intro f1 d
 refine wp_skip (bB (tn (wrl (mi z (mi z (mi z (nt ?_)))))))
 cases d
 exact ⟨_,nls,_,_,e2,_,_,b3,fy z,f,b.ab.ap.dC⟩
}
}
}
 {
 intro d2 d
 refine wp_exit (aQ (aQ ?_))
 replace d:=bg d b3
 refine cZ (tn (ww (mb z (nt (wp_ret ?_)))))
 cases d
 exact aU [.bool true] results10 (rc z ah) ⟨_,z,k,b.bQ⟩
}
}
}
}
end Go.Proofs.YtgnkkopjkgdieaaGreat
