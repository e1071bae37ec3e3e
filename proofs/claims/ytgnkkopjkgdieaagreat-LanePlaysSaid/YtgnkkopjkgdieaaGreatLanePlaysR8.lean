/- A part of the proof. -/
import Derived.Test.YtgnkkopjkgdieaaGreatLanePlaysR7
set_option linter.unusedVariables false
set_option linter.unusedSimpArgs false
set_option maxRecDepth 100000
set_option maxHeartbeats 4000000
namespace Go.Proofs.YtgnkkopjkgdieaaGreat
open Go Go.V
open _root_.Go.Proofs.Tryz IntKind
variable {w0 w:World} {I:HL} {R:SP}
attribute [local irreducible] wpList Code.wp wpQuiet Calls bodyPost Oper.wp wpS Nx gE YieldsIn
theorem rA {a0:ai} {p0:Value} {a1:Int} {a2:aC} {g h i j s t u x:Value} (O:Ro bV I g a2.Hold.Gets) (P:Ro gn I h a2.Hold.Scans) (Q:Ro bV I i a2.Hold.Puts) (S:Ro (cg .u8) I j a2.Hold.Data) (q:Ro cG I s a2.Writes) (f2:Ro aA I t a2.R.Gots) (f3:Ro (dG aw) I u a2.R.Scans) (f4:Ro cJ I x a2.Parts) (b:St w0 w I [aL p0 a0] R) {r:(bh×ai)} (c:cr a0 a1 a2=some r) :
  Calls prog 30 #[p0,U6 a1,.agg #[U1 a2.Kind,U6 a2.ID.Session,U6 a2.ID.Seq,U6 a2.Epoch,U6 a2.Index,I6 a2.E,U6 a2.Hold.ID.Session,U6 a2.Hold.ID.Seq,U6 a2.Hold.Epoch,g,h,i,j,s,I6 a2.R.E,U6 a2.R.Epoch,U6 a2.R.Index,t,u,U6 a2.Shards,x,U6 a2.Rule.ID,I6 a2.Rule.From,I6 a2.Rule.To,F6 a2.Rule.Lo,F6 a2.Rule.Hi,U6 a2.Rule.Authority,I6 a2.Rule.Quota,.bool a2.On]] w fun e w'=>∃ (I':HL) (f5:Value) (f6:Value),e = .returned (.agg #[U1 r.1.Kind,U6 r.1.ID.Session,U6 r.1.ID.Seq,I6 r.1.R.E,U6 r.1.R.Epoch,U6 r.1.R.Index,f5,f6])∧I.le I'∧Ro aA I' f5 r.1.R.Gots∧Ro (dG aw) I' f6 r.1.R.Scans∧St w0 w' I' [aL p0 r.2] R:=by {
 unfold cr at c
 refine c0 func30 z ntmps30 ?_
 have d:=HL.le.refl I
 refine ww ?_
 obtain ⟨T,u9,i5,i6,b⟩:=b.box [U1 a2.Kind,U6 a2.ID.Session,U6 a2.ID.Seq,U6 a2.Epoch,U6 a2.Index,I6 a2.E,U6 a2.Hold.ID.Session,U6 a2.Hold.ID.Seq,U6 a2.Hold.Epoch,g,h,i,j,s,I6 a2.R.E,U6 a2.R.Epoch,U6 a2.R.Index,t,u,U6 a2.Shards,x,U6 a2.Rule.ID,I6 a2.Rule.From,I6 a2.Rule.To,F6 a2.Rule.Lo,F6 a2.Rule.Hi,U6 a2.Rule.Authority,I6 a2.Rule.Quota,.bool a2.On] 49
 refine wa i5 i6 ?_
 obtain ⟨D,v0,i7,i8,b⟩:=b.box [Zb,Zu,Zu,Zi,Zu,Zu,Zs,Zs] 35
 refine wa i7 i8 (nt (wp_seq (ww (mf z underlying49 z sizeOf5 (ml z isAgg5 (b.bc1 z) (nt (wp_block (ww (mb z (mb z (nt (bw c z ?_ ?_))))))))))))
 {
 intro i9 c
 refine wp_seq (wp_seq ?_)
 obtain ⟨c1,v1,v2,v3,v4,v5,v6,v7,⟨rfl,f7,f8,f9,g0⟩,j0⟩:=bd b.ay
 have b:=j0
 refine rg b 12 [0,1,0,4,12,28,63,127,255,511,1023,2047] [] mixed (sf 0 z z underlying49 z sizeOf26 (sl 1 z z isAgg26 (fun w b=>b.bc5 z) (sp 2 z z (sp 3 z z (sf 4 z z underlying130 z sizeOf26 (sl 5 z z isAgg26 (fun w b=>b.bc0 z) (sb 6 z z (sb 7 z z (bs c ?_ ?_)))))))))
 {
 intro y c
 refine so 8 z y (so 9 z y (so 10 z y (sh (.bool _) 11 z (fun w b=>aM y z z) (bi ?_))))
 intro w b
 refine tn (dq z (ww (mk (.agg #[Zb,Zu,Zu,Zi,Zu,Zu,Zs,Zs]) ?_)))
 replace b:=b.aY
 refine bxk b z sizeOf35 (oJ 8 z oN) fun v8 b=>nt (wp_ret (aI (dj (aI ?_))))
 have j1:Ro aA I (.slice none 0 0) []:=cv
 have j2:Ro (dG aw) I (.slice none 0 0) []:=cv
 replace b:=aj (Pt c1 0) a0 b.aY.aY.aY.aY ⟨z,f7,f8,f9,g0⟩
 cases c
 exact aU [.agg #[Zb,Zu,Zu,Zi,Zu,Zu,Zs,Zs]] results30 (bj (bF (cs:=[Zb,Zu,Zu,Zi,Zu,Zu,Zs,Zs]) z isAgg35 sizeOf35 (b.eI 0 z)) ah) ⟨_,Zs,Zs,z,d,j1,j2,b.bo⟩
}
 {
 intro y c
 refine sgz (Pt _ _) 8 z y z (ia 9 (by kernel_rfl) (nxe [10,11] (by kernel_rfl) z ((ar z z z (cvb y)).trans z) ?_))
 clear b
 intro w b
 replace b:=aj (Pt c1 0) a0 b.ap.ap.ap.ap ⟨z,f7,f8,f9,g0⟩
 obtain ⟨v9,j3,c⟩:=bn c
 refine wec call67 [Pt c1 0] z z (kca (oV b.to1 j3) fun x0 b=>?_)
 replace b:=b.of1
 refine w0n b (sgz (.bool _) 10 z y z (sh (.bool _) 11 z (fun w b=>aE y z z) (bi ?_)))
 intro w b
 refine tn (bw c z ?_ ?_)
 {
 intro j4 c
 refine ww (mk (.agg #[Zb,Zu,Zu,Zi,Zu,Zu,Zs,Zs]) ?_)
 replace b:=b.ab
 refine bxk b z sizeOf35 (oJ 8 z oN) fun x1 b=>nt (wp_ret (aI (dj (aI ?_))))
 have j5:Ro aA I (.slice none 0 0) []:=cv
 have j6:Ro (dG aw) I (.slice none 0 0) []:=cv
 cases c
 exact aU [.agg #[Zb,Zu,Zu,Zi,Zu,Zu,Zs,Zs]] results30 (bj (bF (cs:=[Zb,Zu,Zu,Zi,Zu,Zu,Zs,Zs]) z isAgg35 sizeOf35 (b.eD 0 z)) ah) ⟨_,Zs,Zs,z,d,j5,j6,b.ab.bo⟩
}
 {
 intro j4 c
 refine wp_skip (tn (ww (mp z ?_)))
 obtain ⟨x2,x3,x4,x5,x6,x7,x8,x9,⟨c6,j7,j8,j9,k0⟩,k1⟩:=bd b
 replace c6:=dF c6
 subst c6
 have b:=k1
 refine mp z (mf z underlying130 z sizeOf26 (ml z isAgg26 (b.bc0 z) (mi z (mp z (mf z underlying130 z sizeOf26 (byk (U6 (u64.wrap (a0.Epoch+1))) b z sizeOf26 (oC z oN) fun y0 b=>nt (wp_seq (ww (mp z (mp z (mf z underlying130 z sizeOf26 (ml z isAgg26 (b.bc0 z) (mb z (nt (bw c z ?_ ?_)))))))))))))))
 {
 intro k2 c
 cases c
}
 {
 intro k2 c
 refine wp_skip (tn (ww (mk (.agg #[U1 1,Zu,Zu,Zi,Zu,Zu,Zs,Zs]) ?_)))
 replace b:=b.aY
 refine bxk b z sizeOf35 (oJ 8 z oN) fun y1 b=>nt (wp_ret (dj (aI ?_)))
 have k3:Ro aA I (.slice none 0 0) []:=cv
 have k4:Ro (dG aw) I (.slice none 0 0) []:=cv
 replace b:=aj (Pt c1 0) (({a0 with Epoch:=(u64.wrap (a0.Epoch+1))}:ai)) b.aY.aY.aY.aY ⟨z,j7,j8,j9,k0⟩
 cases c
 exact aU [.agg #[U1 1,Zu,Zu,Zi,Zu,Zu,Zs,Zs]] results30 (bj (bF (cs:=[U1 1,Zu,Zu,Zi,Zu,Zu,Zs,Zs]) z isAgg35 sizeOf35 (b.eI 0 z)) ah) ⟨_,Zs,Zs,z,d,k3,k4,b.bo⟩
}
}
}
}
 {
 intro i9 c
 refine ww (mb z (mb z (nt (bw c z ?_ ?_))))
 {
 intro k5 c
 refine ww (mf z underlying49 z sizeOf46 (mf z underlying46 z sizeOf28 (mz (av (cs:=[U6 a2.Hold.ID.Session,U6 a2.Hold.ID.Seq]) z isAgg28 sizeOf28 (b.eI 6 z)) (mk (.agg #[U1 2,U6 a2.Hold.ID.Session,U6 a2.Hold.ID.Seq,Zi,Zu,Zu,Zs,Zs]) ?_))))
 obtain ⟨g1,y2,k6,k7,b⟩:=b.box [Zb,Zu,Zu,Zi,Zu,Zu,Zs,Zs] 35
 refine wa k6 k7 (bxk b z sizeOf35 (oJ 8 z oN) fun y3 b=>nt (ww (mv (p0) z (mf z underlying49 z sizeOf46 (mz (av (cs:=[U6 a2.Hold.ID.Session,U6 a2.Hold.ID.Seq,U6 a2.Hold.Epoch,g,h,i,j]) z isAgg46 sizeOf46 (b.pQ 6 z)) ?_)))))
 replace b:=b.ap
 obtain ⟨G,k8,c⟩:=bn c
 refine wc call69 [p0,.agg #[U6 a2.Hold.ID.Session,U6 a2.Hold.ID.Seq,U6 a2.Hold.Epoch,g,h,i,j]] z z z ((sr O P Q S b.to1 k8).mono ?_)
 rintro _ y4 ⟨I704,rfl,b4,b⟩
 refine ⟨_,z,?_⟩
 replace b:=b.of1
 replace O:=O.mono (ro_le b4)
 replace P:=P.mono (ro_le b4)
 replace Q:=Q.mono (ro_le b4)
 replace S:=S.mono (ro_le b4)
 replace d:=d.trans b4
 refine mi z (nt ?_)
 obtain ⟨y5,c,g2⟩:=bn c
 refine cQ (fun a w=>∃ (I723:HL) (f:bh) (J:Value) (K:Value),(jF G) f=some r∧fz 198 [6,7,8] [Pt D 0,Pt g1 0,I6 G.1] a∧I704.le I723∧St w0 w I723 [cells D [Zb,Zu,Zu,Zi,Zu,Zu,Zs,Zs],cells g1 [U1 f.Kind,U6 f.ID.Session,U6 f.ID.Seq,I6 f.R.E,U6 f.R.Epoch,U6 f.R.Index,J,K],aZ aA J f.R.Gots,aZ (dG aw) K f.R.Scans,aL p0 G.2] R) ?_ ?_
 {
 have c2:=HL.le.refl I704
 refine ww (mi z (mb z (nt (bw c z ?_ ?_))))
 {
 intro k9 c
 refine wrl (mv (p0) z (mf z underlying49 z sizeOf46 (mz (av (cs:=[U6 a2.Hold.ID.Session,U6 a2.Hold.ID.Seq,U6 a2.Hold.Epoch,g,h,i,j]) z isAgg46 sizeOf46 (b.rU 6 z)) ?_)))
 obtain ⟨c7,l0,c⟩:=bn c
 refine wc call34 [p0,.agg #[U6 a2.Hold.ID.Session,U6 a2.Hold.ID.Seq,U6 a2.Hold.Epoch,g,h,i,j]] z z z ((rS (O.mono cz) (P.mono cz) (Q.mono cz) (S.mono cz) b.to1 l0).mono ?_)
 rintro _ y6 ⟨I710,g3,g4,rfl,l1,b⟩
 refine ⟨_,z,?_⟩
 replace b:=b.of3
 replace c2:=c2.trans l1
 refine mf z underlying35 z sizeOf33 ?_
 replace b:=b.ap
 refine byk (.agg #[I6 c7.E,U6 c7.Epoch,U6 c7.Index,g3,g4]) b z sizeOf33 (oJ 3 z (oC (oS b.sv1) (oC (oS b.sv2) oN))) fun y7 b=>nt ?_
 cases c
 exact ⟨_,_,g3,g4,g2,fy z,c2,b.ap.ap.ap.ap.aY.oT⟩
}
 {
 intro k9 c
 refine wp_skip (tn ?_)
 cases c
 exact ⟨_,_,Zs,Zs,g2,fy z,c2,((b.aX aA).aX (dG aw)).ay.ab.ay.ap.aY.oT⟩
}
}
 {
 rintro _ y8 ⟨I723,f,J,K,c,⟨y9,rfl⟩,l2,b⟩
 dsimp only [jF] at c
 replace d:=d.trans l2
 refine ww (mi z (mf z underlying35 z sizeOf33 (mf z underlying33 z sizeOf29 ?_)))
 replace b:=b.ab
 refine byk (I6 G.1) b z sizeOf29 (oC z oN) fun A0 b=>nt (ww (mz (av (cs:=[U1 f.Kind,U6 f.ID.Session,U6 f.ID.Seq,I6 G.1,U6 f.R.Epoch,U6 f.R.Index,J,K]) z isAgg35 sizeOf35 (b.eD 0 z)) ?_))
 replace b:=b.ab
 refine bxk b z sizeOf35 (oJ 6 z (oC (oS b.sv2) (oC (oS b.sv3) oN))) fun A1 b=>nt (wp_ret (dj (aI ?_)))
 replace b:=b.ay
 obtain ⟨I734,l3,c8,b⟩:=b.cK
 replace d:=d.trans l3
 replace b:=b.ay
 obtain ⟨I737,g5,l4,b⟩:=b.cK
 replace c8:=c8.mono (ro_le g5)
 replace d:=d.trans g5
 cases c
 exact aU [.agg #[U1 f.Kind,U6 f.ID.Session,U6 f.ID.Seq,I6 G.1,U6 f.R.Epoch,U6 f.R.Index,J,K]] results30 (bj (bF (cs:=[U1 f.Kind,U6 f.ID.Session,U6 f.ID.Seq,I6 G.1,U6 f.R.Epoch,U6 f.R.Index,J,K]) z isAgg35 sizeOf35 (b.eD 0 z)) ah) ⟨_,J,K,z,d,c8,l4,b.ay.bo⟩
}
}
 {
 intro k5 c
 refine ww (mb z (mb z (nt (bw c z ?_ ?_))))
 {
 intro l5 c
 refine wp_seq ?_
 obtain ⟨A,A2,g6,A3,A4,A5,A6,A7,⟨rfl,U,F,W,X⟩,l6⟩:=bd b.ay
 have b:=l6
 obtain ⟨A8,c,g7⟩:=bn c
 refine qT (fun a w=>∃ (I815:HL) (b5:Bool),(ib a0 a2) b5=some r∧fz 198 [0,5,6,10] [Pt A 0,Pt T 0,Pt D 0,.bool b5] a∧I.le I815∧St w0 w I815 [aL (Pt A 0) a0,cells T [U1 a2.Kind,U6 a2.ID.Session,U6 a2.ID.Seq,U6 a2.Epoch,U6 a2.Index,I6 a2.E,U6 a2.Hold.ID.Session,U6 a2.Hold.ID.Seq,U6 a2.Hold.Epoch,g,h,i,j,s,I6 a2.R.E,U6 a2.R.Epoch,U6 a2.R.Index,t,u,U6 a2.Shards,x,U6 a2.Rule.ID,I6 a2.Rule.From,I6 a2.Rule.To,F6 a2.Rule.Lo,F6 a2.Rule.Hi,U6 a2.Rule.Authority,I6 a2.Rule.Quota,.bool a2.On],cells D [Zb,Zu,Zu,Zi,Zu,Zu,Zs,Zs]] R) ?_ ?_
 {
 have Y:=HL.le.refl I
 refine rg b 13 [0,1,3,7,0,16,63,127,255,255,0,1535,4095] [] mixed (sp 0 z z (sp 1 z z (sf 2 z z underlying130 z sizeOf125 (sl 3 z z isAgg125 (fun w b=>b.bc0 z) (sf 4 z z underlying49 z sizeOf28 (sh _ 5 z (fun w b=>av (cs:=[U6 a2.ID.Session,U6 a2.ID.Seq]) z isAgg28 sizeOf28 (b.xB 1 z)) ?_))))))
 obtain ⟨k,g8,c⟩:=bn c
 refine pC 6 10 (by kernel_rfl) ?_ ?_
 {
 refine nx z z fun w b=>wec call70 [g6,.agg #[U6 a2.ID.Session,U6 a2.ID.Seq]] z z ((kc F b.to0 g8).mono ?_)
 rintro _ A9 ⟨I763,g9,h0,h1,h2,rfl,b6,l7,l8,l9,m0,b⟩
 refine ⟨_,z,?_⟩
 replace b:=b.of0
 replace U:=U.mono (ro_le b6)
 replace F:=F.mono (ro_le b6)
 replace W:=W.mono (ro_le b6)
 replace X:=X.mono (ro_le b6)
 replace Y:=Y.trans b6
 refine w0n b (sz (.tuple #[.agg #[U6 k.1.ID.Session,U6 k.1.ID.Seq,U6 k.1.Epoch,g9,h0,h1,h2],.bool k.2]) 7 z z (sz (.agg #[U6 k.1.ID.Session,U6 k.1.ID.Seq,U6 k.1.Epoch,g9,h0,h1,h2]) 8 z z (sb 9 z z (e1 10 z z fun w b=>?_))))
 obtain ⟨m1,m2,m3,m4,b⟩:=b.box [Zu,Zu,Zu,Zs,Zs,Zs,Zs] 46
 refine bS (v:=Pt m1 0) (w':=m2) z (tO (by kernel_rfl) m3 m4) (wn [9,8,7] b (pz (pz (pz bu))) (e1 11 z z fun w b=>bxe b z sizeOf46 (oJ 3 z (oC (oS (ag l7)) (oC (oS (ag l8)) (oC (oS (ag l9)) (oC (oS (ag m0)) oN))))) fun B0 b=>wn [9] b (pz bu) (sb 12 z z (bi ?_))))
 intro w b
 refine ⟨z,?_⟩
 cases c
 exact ⟨_,_,g7,fy z,Y,(aj (Pt A 0) a0 b.aY.aY.aY.aY ⟨z,U,F,W,X⟩).ay.ap.ay.dC⟩
}
 {
 refine nx z z fun w b=>?_
 obtain ⟨m5,m6,m7,m8,b⟩:=b.box [Zu,Zu,Zu,Zs,Zs,Zs,Zs] 46
 refine bS (v:=Pt m5 0) (w':=m6) z (tO (by kernel_rfl) m7 m8) (wn [5,4,3,2,1,0] b (pkr z z (fun w b=>av (cs:=[U6 a2.ID.Session,U6 a2.ID.Seq]) z isAgg28 sizeOf28 (b.CY 1 z)) (pf z z underlying49 z sizeOf28 (pkr z z (fun w b=>ao z isAgg125 (b.bc1 z)) (pf z z underlying130 z sizeOf125 (pz (pz bu)))))) (e1 6 z z fun w b=>wec call70 [g6,.agg #[U6 a2.ID.Session,U6 a2.ID.Seq]] z z ((kc F b.to0 g8).mono ?_)))
 rintro _ B1 ⟨I798,h3,h4,h5,h6,rfl,b7,m9,n0,n1,n2,b⟩
 refine ⟨_,z,?_⟩
 replace b:=b.of0
 replace U:=U.mono (ro_le b7)
 replace F:=F.mono (ro_le b7)
 replace W:=W.mono (ro_le b7)
 replace X:=X.mono (ro_le b7)
 replace Y:=Y.trans b7
 refine w0n b (sz (.tuple #[.agg #[U6 k.1.ID.Session,U6 k.1.ID.Seq,U6 k.1.Epoch,h3,h4,h5,h6],.bool k.2]) 7 z z (sz (.agg #[U6 k.1.ID.Session,U6 k.1.ID.Seq,U6 k.1.Epoch,h3,h4,h5,h6]) 8 z z (sb 9 z z (e1 11 z z fun w b=>bxe b z sizeOf46 (oJ 3 z (oC (oS (ag m9)) (oC (oS (ag n0)) (oC (oS (ag n1)) (oC (oS (ag n2)) oN))))) fun B2 b=>wn [9] b (pz bu) (sb 12 z z (bi ?_))))))
 intro w b
 refine ⟨z,?_⟩
 cases c
 exact ⟨_,_,g7,fy z,Y,(aj (Pt A 0) a0 b.aY.aY.aY.aY ⟨z,U,F,W,X⟩).ay.ap.ay.dC⟩
}
}
 {
 rintro _ B3 ⟨I815,b5,c,⟨B4,rfl⟩,h7,b⟩
 dsimp only [ib] at c
 replace q:=q.mono (ro_le h7)
 replace d:=d.trans h7
 refine tn (wp_seq ?_)
 obtain ⟨B5,B6,n3,B7,B8,B9,C0,C1,⟨c9,d0,n4,d1,d2⟩,n5⟩:=bd b
 replace c9:=dF c9
 subst c9
 have b:=n5
 refine rg b 11 [0,0,2,6,14,0,32,126,255,511,1023] [] mixed (sp 0 z z (sp 1 z z (sp 2 z z (sf 3 z z underlying130 z sizeOf125 (sl 4 z z isAgg125 (fun w b=>b.bc0 z) (sf 5 z z underlying49 z sizeOf28 (sh _ 6 z (fun w b=>av (cs:=[U6 a2.ID.Session,U6 a2.ID.Seq]) z isAgg28 sizeOf28 (b.wq 1 z)) (e1 7 z z fun w b=>?_))))))))
 obtain ⟨h8,n6,c⟩:=bn c
 refine wec call71 [n3,.agg #[U6 a2.ID.Session,U6 a2.ID.Seq]] z z (kcb (pJ n4 b.to0 n6) fun n7 C2 b=>?_)
 replace b:=b.of1
 refine wn [0] b (pz bu) (sp 8 z z (sf 9 z z underlying130 z sizeOf125 (e1 10 z z fun w b=>?_)))
 replace b:=b.ab
 refine b1e n7 b z (oS b.sv1) sizeOf125 fun C3 b=>w0n b (bi ?_)
 intro w b
 refine tn ?_
 obtain ⟨n8,c,d3⟩:=bn c
 refine cQ (fun a w=>∃ (I1033:HL) (d4:ai),(lK a2) d4=some r∧fz 198 [5,6] [Pt T 0,Pt D 0] a∧I815.le I1033∧St w0 w I1033 [cells T [U1 a2.Kind,U6 a2.ID.Session,U6 a2.ID.Seq,U6 a2.Epoch,U6 a2.Index,I6 a2.E,U6 a2.Hold.ID.Session,U6 a2.Hold.ID.Seq,U6 a2.Hold.Epoch,g,h,i,j,s,I6 a2.R.E,U6 a2.R.Epoch,U6 a2.R.Index,t,u,U6 a2.Shards,x,U6 a2.Rule.ID,I6 a2.Rule.From,I6 a2.Rule.To,F6 a2.Rule.Lo,F6 a2.Rule.Hi,U6 a2.Rule.Authority,I6 a2.Rule.Quota,.bool a2.On],cells D [Zb,Zu,Zu,Zi,Zu,Zu,Zs,Zs],aL (Pt A 0) d4] R) ?_ ?_
 {
 have L:=HL.le.refl I815
 refine ww (mi z (nt (wp_block ?_)))
 replace b:=b.ab
 obtain ⟨I851,b8,n9,b⟩:=b.cK
 replace q:=q.mono (ro_le b8)
 replace d0:=d0.mono (ro_le b8)
 replace d1:=d1.mono (ro_le b8)
 replace d2:=d2.mono (ro_le b8)
 replace L:=L.trans b8
 replace b:=aj (Pt A 0) (({a0 with H:=h8}:ai)) b.ap.ap.ap.ap ⟨z,d0,n9,d1,d2⟩
 obtain ⟨o0,c⟩:=aS c
 refine bf (fun n a w=>∃ (I968:HL) (M:ai) (d5:Int),cP (du b5 a2) n (M,d5)=some n8∧fz 198 [0,5,6,10,11] [Pt A 0,Pt T 0,Pt D 0,.bool b5,I6 d5] a∧I851.le I968∧St w0 w I968 [aL (Pt A 0) M,cells T [U1 a2.Kind,U6 a2.ID.Session,U6 a2.ID.Seq,U6 a2.Epoch,U6 a2.Index,I6 a2.E,U6 a2.Hold.ID.Session,U6 a2.Hold.ID.Seq,U6 a2.Hold.Epoch,g,h,i,j,s,I6 a2.R.E,U6 a2.R.Epoch,U6 a2.R.Index,t,u,U6 a2.Shards,x,U6 a2.Rule.ID,I6 a2.Rule.From,I6 a2.Rule.To,F6 a2.Rule.Lo,F6 a2.Rule.Hi,U6 a2.Rule.Authority,I6 a2.Rule.Quota,.bool a2.On],cells D [Zb,Zu,Zu,Zi,Zu,Zu,Zs,Zs]] R) o0 ⟨_,({a0 with H:=h8}:ai),0,c,fy z,lr,b⟩ ?_
 rintro C4 _ C5 ⟨I968,M,d5,c,⟨C6,rfl⟩,b9,b⟩
 obtain ⟨C7,C8,rfl,c,c3⟩:=aV c
 dsimp only [du] at c
 replace q:=q.mono (ro_le b9)
 replace L:=L.trans b9
 refine wp_seq (ww (mb z (mb z (bs c ?_ ?_))))
 {
 intro C c
 refine gg C (aO z underlying49 z sizeOf29 z) (gg C (ao z isAgg29 (b.bc1 z)) (gb C z (mb (aM C z z) (mb z (bs c ?_ ?_)))))
 {
 intro l c
 refine gi l z (gg l (aO z underlying49 z sizeOf42 z) (gg l (ao z isAgg42 (b.bc1 z)) (gg l (bW z underlying42 (ag q)) (gb l z (mb (aM l z z) (nt (bw c z ?_ ?_)))))))
 {
 intro o1 c
 refine wp_skip (tn (wp_seq (wp_block (ww (mf z underlying49 z sizeOf42 (ml z isAgg42 (b.bc1 z) (mi z ?_)))))))
 obtain ⟨N,o2,c⟩:=bn c
 obtain ⟨o3,o4,o5⟩:=aK o2
 refine mz (az z z underlying42 sizeOf41 (ag q) o3 o4) ?_
 obtain ⟨C9,o6,o7⟩:=Ro.jV q o5
 obtain ⟨c4,rfl,d6,-⟩:=o6
 refine mz (av (cs:=[F6 N.At,.bool N.Del,c4]) z isAgg41 sizeOf41 (dO (o:=0) (o7 lr b) z)) ?_
 obtain ⟨o8,D0,o9,q0,b⟩:=b.box [Zf,.bool false,Zs] 41
 refine wa o9 q0 (bxk b z sizeOf41 (oJ 2 z (oC (oS (ag d6)) oN)) fun D1 b=>nt ?_)
 obtain ⟨D2,q1,D3,D4,D5,D6,D7,D8,⟨d7,q2,d8,d9,e0⟩,q3⟩:=bd b.ab
 replace d7:=dF d7
 subst d7
 have b:=q3
 refine rg b 20 [0,0,2,6,14,0,32,0,128,0,512,0,2048,0,8192,32736,65534,131071,262143,524287] [] mixed (sp 0 z z (sp 1 z z (sp 2 z z (sf 3 z z underlying130 z sizeOf124 (sl 4 z z isAgg124 (fun w b=>b.bc0 z) (sf 5 z z underlying41 z sizeOf37 (sl 6 z z isAgg37 (fun w b=>b.bc4 z) (sf 7 z z underlying49 z sizeOf26 (sl 8 z z isAgg26 (fun w b=>b.bc5 z) (sf 9 z z underlying49 z sizeOf26 (sl 10 z z isAgg26 (fun w b=>b.bc5 z) (sf 11 z z underlying41 z sizeOf4 (sl 12 z z isAgg4 (fun w b=>b.bc4 z) (wsr (Pt o8 2) 13 rfl rfl rfl (by kernel_rfl) (fun w b=>aO rfl underlying41 rfl sizeOf22 rfl) (wsr (c4) 14 rfl rfl rfl (by kernel_rfl) (fun w b=>ao rfl isAgg22 (b.bc4 rfl)) (wsr (.agg #[F6 N.At,U6 a2.Epoch,U6 a2.Index,.bool N.Del,c4]) 15 rfl rfl rfl (by kernel_rfl) (fun w b=>by obtain ⟨_,_,hv_,_⟩:=(ag d6); rw [hv_]; kernel_rfl) (e1 16 z z fun w b=>?_)))))))))))))))))
 obtain ⟨q4,q5,c⟩:=bn c
 refine wec call72 [q1,.agg #[F6 N.At,U6 a2.Epoch,U6 a2.Index,.bool N.Del,c4]] z z (kcb (wF (a1:=({N with Epoch:=a2.Epoch,Index:=a2.Index}:aB)) q2 d6 b.to0 q5) fun q6 D9 b=>?_)
 replace b:=b.of1
 refine wn [0] b (pz bu) (sp 17 z z (sf 18 z z underlying130 z sizeOf124 (e1 19 z z fun w b=>?_)))
 replace b:=b.ab
 refine b1e q6 b z (oS b.sv1) sizeOf124 fun E0 b=>w0n b (bi ?_)
 intro w b
 refine bB (tn (wrl (mi z (mi z (mi z (nt ?_))))))
 replace b:=b.ab
 obtain ⟨I1029,c5,q7,b⟩:=b.cK
 replace d8:=d8.mono (ro_le c5)
 replace d9:=d9.mono (ro_le c5)
 replace e0:=e0.mono (ro_le c5)
 replace b9:=b9.trans c5
 cases c
 exact ⟨_,nls,_,_,_,c3,fy z,b9,(aj (Pt A 0) (({M with V:=q4}:ai)) b.ap.ap.ap.ap ⟨z,q7,d8,d9,e0⟩).ap.ap.ay.dC⟩
}
 {
 intro o1 c
 refine wp_exit (aQ (aQ ?_))
 replace c:=bg c c3
 refine cZ (tn ?_)
 obtain rfl:=sj c
 exact ⟨_,M,d3,fy z,L,b.ay.ay.dC⟩
}
}
 {
 intro l c
 refine go l (go l (go l (go l (go l (mb (aE l z z) (nt (bT z (wp_exit (aQ (aQ ?_))))))))))
 replace c:=bg c c3
 refine cZ (tn ?_)
 obtain rfl:=sj c
 exact ⟨_,M,d3,fy z,L,b.ay.ay.dC⟩
}
}
 {
 intro C c
 refine go C (go C (go C (mb (aE C z z) (mb z (gz (gz (gz (gz (gz (mb (aE z z z) (nt (bT z (wp_exit (aQ (aQ ?_)))))))))))))))
 replace c:=bg c c3
 refine cZ (tn ?_)
 obtain rfl:=sj c
 exact ⟨_,M,d3,fy z,L,b.ay.ay.dC⟩
}
}
 {
 rintro _ E1 ⟨I1033,d4,c,⟨E2,rfl⟩,q8,b⟩
 dsimp only [lK] at c
 replace d:=d.trans q8
 refine ww (mf z underlying49 z sizeOf28 (mz (av (cs:=[U6 a2.ID.Session,U6 a2.ID.Seq]) z isAgg28 sizeOf28 (b.eD 1 z)) (mk (.agg #[U1 3,U6 a2.ID.Session,U6 a2.ID.Seq,Zi,Zu,Zu,Zs,Zs]) ?_)))
 replace b:=b.ab
 refine bxk b z sizeOf35 (oJ 8 z oN) fun E3 b=>nt (wp_ret (dj (aI ?_)))
 have q9:Ro aA I1033 (.slice none 0 0) []:=cv
 have s0:Ro (dG aw) I1033 (.slice none 0 0) []:=cv
 cases c
 exact aU [.agg #[U1 3,U6 a2.ID.Session,U6 a2.ID.Seq,Zi,Zu,Zu,Zs,Zs]] results30 (bj (bF (cs:=[U1 3,U6 a2.ID.Session,U6 a2.ID.Seq,Zi,Zu,Zu,Zs,Zs]) z isAgg35 sizeOf35 (b.eD 0 z)) ah) ⟨_,Zs,Zs,z,d,q9,s0,b.ay.bo⟩
}
}
}
 {
 intro l5 c
 refine ww (mb z (mb z (nt (bw c z ?_ ?_))))
 {
 intro s1 c
 refine ww (mv (p0) z (mi z (mz (av (cs:=[U1 a2.Kind,U6 a2.ID.Session,U6 a2.ID.Seq,U6 a2.Epoch,U6 a2.Index,I6 a2.E,U6 a2.Hold.ID.Session,U6 a2.Hold.ID.Seq,U6 a2.Hold.Epoch,g,h,i,j,s,I6 a2.R.E,U6 a2.R.Epoch,U6 a2.R.Index,t,u,U6 a2.Shards,x,U6 a2.Rule.ID,I6 a2.Rule.From,I6 a2.Rule.To,F6 a2.Rule.Lo,F6 a2.Rule.Hi,U6 a2.Rule.Authority,I6 a2.Rule.Quota,.bool a2.On]) z isAgg49 sizeOf49 (b.eI 0 z)) ?_)))
 replace b:=b.ay
 obtain ⟨m,s2,c⟩:=bn c
 refine wc call73 [p0,U6 a1,.agg #[U1 a2.Kind,U6 a2.ID.Session,U6 a2.ID.Seq,U6 a2.Epoch,U6 a2.Index,I6 a2.E,U6 a2.Hold.ID.Session,U6 a2.Hold.ID.Seq,U6 a2.Hold.Epoch,g,h,i,j,s,I6 a2.R.E,U6 a2.R.Epoch,U6 a2.R.Index,t,u,U6 a2.Shards,x,U6 a2.Rule.ID,I6 a2.Rule.From,I6 a2.Rule.To,F6 a2.Rule.Lo,F6 a2.Rule.Hi,U6 a2.Rule.Authority,I6 a2.Rule.Quota,.bool a2.On]] z z z ((qV O P Q S q f2 f3 f4 b.to1 s2).mono ?_)
 rintro _ E4 ⟨I1050,e2,e3,rfl,s3,h9,i0,b⟩
 refine ⟨_,z,?_⟩
 replace b:=b.of1
 replace d:=d.trans s3
 replace b:=b.ab
 refine bxk b z sizeOf35 (oJ 6 z (oC (oS (ag h9)) (oC (oS (ag i0)) oN))) fun E5 b=>nt (wp_ret (dj (aI ?_)))
 cases c
 exact aU [.agg #[U1 m.1.Kind,U6 m.1.ID.Session,U6 m.1.ID.Seq,I6 m.1.R.E,U6 m.1.R.Epoch,U6 m.1.R.Index,e2,e3]] results30 (bj (bF (cs:=[U1 m.1.Kind,U6 m.1.ID.Session,U6 m.1.ID.Seq,I6 m.1.R.E,U6 m.1.R.Epoch,U6 m.1.R.Index,e2,e3]) z isAgg35 sizeOf35 (b.eD 0 z)) ah) ⟨_,e2,e3,z,d,h9,i0,b.ab.bo⟩
}
 {
 intro s1 c
 refine ww (mb z (mb z (nt (bw c z ?_ ?_))))
 {
 intro s4 c
 refine wrl (mv (p0) z (mf z underlying49 z sizeOf28 (mz (av (cs:=[U6 a2.ID.Session,U6 a2.ID.Seq]) z isAgg28 sizeOf28 (b.eI 1 z)) ?_)))
 replace b:=b.ay
 obtain ⟨E6,s5,c⟩:=bn c
 refine wc call74 [p0,.agg #[U6 a2.ID.Session,U6 a2.ID.Seq]] z z z (kca (nD b.to1 s5) fun E7 b=>?_)
 replace b:=b.of1
 refine dk (bB (tn (ww (mk (.agg #[Zb,Zu,Zu,Zi,Zu,Zu,Zs,Zs]) ?_))))
 replace b:=b.ab
 refine bxk b z sizeOf35 (oJ 8 z oN) fun E8 b=>nt (wp_ret ?_)
 have s6:Ro aA I (.slice none 0 0) []:=cv
 have s7:Ro (dG aw) I (.slice none 0 0) []:=cv
 cases c
 exact aU [.agg #[Zb,Zu,Zu,Zi,Zu,Zu,Zs,Zs]] results30 (bj (bF (cs:=[Zb,Zu,Zu,Zi,Zu,Zu,Zs,Zs]) z isAgg35 sizeOf35 (b.eD 0 z)) ah) ⟨_,Zs,Zs,z,d,s6,s7,b.ab.bo⟩
}
 {
 intro s4 c
 refine ww (mb z (mb z (nt (bw c z ?_ ?_))))
 {
 intro s8 c
 refine wp_seq ?_
 obtain ⟨i1,E9,G0,G1,s9,G2,G3,G4,⟨rfl,Z,b0,b1,t0⟩,t1⟩:=bd b.ay
 have b:=t1
 refine rg b 19 [0,0,2,6,14,0,32,96,0,256,768,1792,4094,8190,16382,16382,32767,98303,229375] [] mixed (sp 0 z z (sp 1 z z (sp 2 z z (sf 3 z z underlying130 z sizeOf127 (sl 4 z z isAgg127 (fun w b=>b.bc0 z) (sf 5 z z underlying49 z sizeOf39 (sf 6 z z underlying39 z sizeOf26 (sl 7 z z isAgg26 (fun w b=>b.bc5 z) (sp 8 z z (sp 9 z z (sf 10 z z underlying130 z sizeOf26 (sl 11 z z isAgg26 (fun w b=>b.bc0 z) (e1 12 z z fun w b=>?_)))))))))))))
 obtain ⟨e4,t2,c⟩:=bn c
 refine wec call75 [s9,U6 a2.Rule.ID,U6 a0.Epoch] z z (kcb (uB (t0.mono cz) b.to0 t2) fun e5 G5 b=>?_)
 replace b:=b.of1
 refine wn [0] b (pz bu) (sz (.tuple #[e5,.bool e4.2]) 13 z z (sz (e5) 14 z z (sb 15 z z (sp 16 z z (sf 17 z z underlying130 z sizeOf127 (e1 18 z z fun w b=>?_))))))
 replace b:=b.ab
 refine b1e e5 b z (oS b.sv1) sizeOf127 fun G6 b=>wn [15] b (pz bu) (bi ?_)
 intro w b
 refine tn (ww (mf z underlying49 z sizeOf4 (ml z isAgg4 (b.bc6 z) (nt (bw c z ?_ ?_)))))
 {
 intro t3 c
 refine rg b 17 [0,0,2,6,14,0,32,0,128,384,896,2016,4064,8190,16383,32767,65535] [] mixed (sp 0 z z (sp 1 z z (sp 2 z z (sf 3 z z underlying130 z sizeOf127 (sl 4 z z isAgg127 (fun w b=>b.bc0 z) (sf 5 z z underlying49 z sizeOf39 (sh _ 6 z (fun w b=>av (cs:=[U6 a2.Rule.ID,I6 a2.Rule.From,I6 a2.Rule.To,F6 a2.Rule.Lo,F6 a2.Rule.Hi,U6 a2.Rule.Authority,I6 a2.Rule.Quota]) z isAgg39 sizeOf39 (b.CY 21 z)) (sp 7 z z (sp 8 z z (sf 9 z z underlying130 z sizeOf26 (sl 10 z z isAgg26 (fun w b=>b.bc0 z) (sk (.agg #[U6 a2.Rule.ID,I6 a2.Rule.From,I6 a2.Rule.To,F6 a2.Rule.Lo,F6 a2.Rule.Hi,U6 a2.Rule.Authority,I6 a2.Rule.Quota,U6 a0.Epoch,Zu]) 11 z (e1 12 z z fun w b=>?_)))))))))))))
 obtain ⟨t4,t5,t6,t7,b⟩:=b.er (E:=dQ) (xs:=[({R:=a2.Rule,From:=a0.Epoch,To:=0}:cD)]) [[U6 a2.Rule.ID,I6 a2.Rule.From,I6 a2.Rule.To,F6 a2.Rule.Lo,F6 a2.Rule.Hi,U6 a2.Rule.Authority,I6 a2.Rule.Quota,U6 a0.Epoch,Zu]] 144 1 z (bz.cons z bz.nil)
 refine bS (v:=(.slice (some ⟨t4,0,none⟩) 1 1)) (w':=t5) z (di (by kernel_rfl) t6 t7) (wn [4,3,2,1,0] b (pkr z z (fun w b=>ao z isAgg127 (b.bc1 z)) (pf z z underlying130 z sizeOf127 (pz (pz (pz bu))))) (e1 13 z z fun w b=>?_))
 obtain ⟨t8,c⟩:=cw c
 replace b:=b.ay
 obtain ⟨i2,t9,u0,b⟩:=bE za underlying127 b b.jr (cF t8 z) 127
 refine bS (v:=i2) (w':=t9) z (bU z z u0) (wn [0] b (pz bu) (sp 14 z z (sf 15 z z underlying130 z sizeOf127 (e1 16 z z fun w b=>?_))))
 replace b:=b.ay
 refine b1e i2 b z (oS b.sv1) sizeOf127 fun G7 b=>w0n b (bi ?_)
 intro w b
 refine bB (tn (ww (mk (.agg #[Zb,Zu,Zu,Zi,Zu,Zu,Zs,Zs]) ?_)))
 replace b:=b.cV
 refine bxk b z sizeOf35 (oJ 8 z oN) fun G8 b=>nt (wp_ret ?_)
 have e6:Ro aA I (.slice none 0 0) []:=cv
 have e7:Ro (dG aw) I (.slice none 0 0) []:=cv
 replace b:=b.ay
 obtain ⟨I1120,b2,u1,b⟩:=b.cK
 replace Z:=Z.mono (ro_le b2)
 replace b0:=b0.mono (ro_le b2)
 replace b1:=b1.mono (ro_le b2)
 replace e6:=e6.mono (ro_le b2)
 replace e7:=e7.mono (ro_le b2)
 replace d:=d.trans b2
 replace b:=aj (Pt i1 0) (({a0 with B:=(e4.1++([({R:=a2.Rule,From:=a0.Epoch,To:=0}:cD)]))}:ai)) b.aW.aW.aW.aY ⟨z,Z,b0,b1,u1⟩
 cases c
 exact aU [.agg #[Zb,Zu,Zu,Zi,Zu,Zu,Zs,Zs]] results30 (bj (bF (cs:=[Zb,Zu,Zu,Zi,Zu,Zu,Zs,Zs]) z isAgg35 sizeOf35 (b.eI 0 z)) ah) ⟨_,Zs,Zs,z,d,e6,e7,b.bo⟩
}
 {
 intro t3 c
 refine wp_skip (bB (tn (ww (mk (.agg #[Zb,Zu,Zu,Zi,Zu,Zu,Zs,Zs]) ?_))))
 replace b:=b.aW
 refine bxk b z sizeOf35 (oJ 8 z oN) fun G9 b=>nt (wp_ret ?_)
 have e8:Ro aA I (.slice none 0 0) []:=cv
 have e9:Ro (dG aw) I (.slice none 0 0) []:=cv
 replace b:=b.ay
 obtain ⟨I1129,b3,u2,b⟩:=b.cK
 replace Z:=Z.mono (ro_le b3)
 replace b0:=b0.mono (ro_le b3)
 replace b1:=b1.mono (ro_le b3)
 replace e8:=e8.mono (ro_le b3)
 replace e9:=e9.mono (ro_le b3)
 replace d:=d.trans b3
 replace b:=aj (Pt i1 0) (({a0 with B:=e4.1}:ai)) b.aY.aY.aY.aY ⟨z,Z,b0,b1,u2⟩
 cases c
 exact aU [.agg #[Zb,Zu,Zu,Zi,Zu,Zu,Zs,Zs]] results30 (bj (bF (cs:=[Zb,Zu,Zu,Zi,Zu,Zu,Zs,Zs]) z isAgg35 sizeOf35 (b.eI 0 z)) ah) ⟨_,Zs,Zs,z,d,e8,e9,b.bo⟩
}
}
 {
 intro s8 c
 refine ww (mb z (mb z (nt (bw c z ?_ ?_))))
 {
 intro u3 c
 refine ww (mv (p0) z (mi z (mz (av (cs:=[U1 a2.Kind,U6 a2.ID.Session,U6 a2.ID.Seq,U6 a2.Epoch,U6 a2.Index,I6 a2.E,U6 a2.Hold.ID.Session,U6 a2.Hold.ID.Seq,U6 a2.Hold.Epoch,g,h,i,j,s,I6 a2.R.E,U6 a2.R.Epoch,U6 a2.R.Index,t,u,U6 a2.Shards,x,U6 a2.Rule.ID,I6 a2.Rule.From,I6 a2.Rule.To,F6 a2.Rule.Lo,F6 a2.Rule.Hi,U6 a2.Rule.Authority,I6 a2.Rule.Quota,.bool a2.On]) z isAgg49 sizeOf49 (b.eI 0 z)) ?_)))
 replace b:=b.ay
 obtain ⟨p,u4,c⟩:=bn c
 refine wc call76 [p0,U6 a1,.agg #[U1 a2.Kind,U6 a2.ID.Session,U6 a2.ID.Seq,U6 a2.Epoch,U6 a2.Index,I6 a2.E,U6 a2.Hold.ID.Session,U6 a2.Hold.ID.Seq,U6 a2.Hold.Epoch,g,h,i,j,s,I6 a2.R.E,U6 a2.R.Epoch,U6 a2.R.Index,t,u,U6 a2.Shards,x,U6 a2.Rule.ID,I6 a2.Rule.From,I6 a2.Rule.To,F6 a2.Rule.Lo,F6 a2.Rule.Hi,U6 a2.Rule.Authority,I6 a2.Rule.Quota,.bool a2.On]] z z z ((rI (O.mono cz) (P.mono cz) (Q.mono cz) (S.mono cz) (q.mono cz) (f2.mono cz) (f3.mono cz) (f4.mono cz) b.to1 u4).mono ?_)
 rintro _ H0 ⟨I1136,f0,f1,rfl,u5,i3,i4,b⟩
 refine ⟨_,z,?_⟩
 replace b:=b.of1
 replace d:=d.trans u5
 replace b:=b.ab
 refine bxk b z sizeOf35 (oJ 6 z (oC (oS (ag i3)) (oC (oS (ag i4)) oN))) fun H1 b=>nt (wp_ret (dj (aI ?_)))
 cases c
 exact aU [.agg #[U1 p.1.Kind,U6 p.1.ID.Session,U6 p.1.ID.Seq,I6 p.1.R.E,U6 p.1.R.Epoch,U6 p.1.R.Index,f0,f1]] results30 (bj (bF (cs:=[U1 p.1.Kind,U6 p.1.ID.Session,U6 p.1.ID.Seq,I6 p.1.R.E,U6 p.1.R.Epoch,U6 p.1.R.Index,f0,f1]) z isAgg35 sizeOf35 (b.eD 0 z)) ah) ⟨_,f0,f1,z,d,i3,i4,b.ab.bo⟩
}
 {
 intro u3 c
 refine wp_skip (bB (tn (ww (mk (.agg #[Zb,Zu,Zu,Zi,Zu,Zu,Zs,Zs]) (bxk b z sizeOf35 (oJ 8 z oN) fun H2 b=>nt (wp_ret ?_))))))
 have u6:Ro aA I (.slice none 0 0) []:=cv
 have u7:Ro (dG aw) I (.slice none 0 0) []:=cv
 cases c
 exact aU [.agg #[Zb,Zu,Zu,Zi,Zu,Zu,Zs,Zs]] results30 (bj (bF (cs:=[Zb,Zu,Zu,Zi,Zu,Zu,Zs,Zs]) z isAgg35 sizeOf35 (b.eD 0 z)) ah) ⟨_,Zs,Zs,z,d,u6,u7,b.ay.bo⟩
}
}
}
}
}
}
}
}
theorem eo {a0:(List cp)} {f:Value} {a1:(List cp)} {g:Value} (h:Rd aA R I f a0) (i:Rd aA R I g a1) (c:St w0 w I [] R) {r:(Bool)} (b:fN a0 a1=some r) :
  Calls prog 78 #[f,g] w fun e w'=>e = .returned (.bool r)∧St w0 w' I [] R:=by {
 unfold fN at b
 refine c0 func78 z ntmps78 (ww (mb z (nt (wp_seq (ww (mv (f) z (mz (bW z underlying30 (au h)) (mv (g) z (mz (bW z underlying30 (au i)) (mb z (nt (bw b z ?_ ?_))))))))))))
 {
 intro x b
 cases b
}
 {
 intro x b
 refine wp_skip (tn (wp_seq (ww (mi z (nt (wp_block ?_))))))
 obtain ⟨y,b⟩:=aS b
 refine bf (fun n a w=>∃ (j:Int),cP (fh a0 a1) n j=some r∧fz 43 [0,1,5] [f,g,I6 j] a∧St w0 w I [] R) y ⟨0,b,fy z,c⟩ ?_
 rintro L _ M ⟨j,b,⟨N,rfl⟩,c⟩
 obtain ⟨O,P,rfl,b,m⟩:=aV b
 dsimp only [fh] at b
 refine wp_seq (ww (mi z (mv (f) z (mz (bW z underlying30 (au h)) (mb z (nt (bw b z ?_ ?_)))))))
 {
 intro A b
 refine wp_skip (tn (wp_seq (wp_block (wp_seq (dL c mixed (by kernel_rfl) (qz f z (qz (I6 _) z ?_)))))))
 obtain ⟨k,B,b⟩:=bn b
 obtain ⟨o,p,C⟩:=aK B
 refine qh _ (fun w c=>az z z underlying30 sizeOf61 (au h) o p) (qh _ (fun w c=>aR z underlying61 z sizeOf4 z) ?_)
 obtain ⟨Q,D,q⟩:=Rd.jV h C
 obtain ⟨S,rfl,E,-⟩:=D
 refine qh _ (fun w c=>ao z isAgg4 ((q lr c) 0 _ z)) (qz g z (qz (I6 _) z ?_))
 obtain ⟨l,F,b⟩:=bn b
 obtain ⟨s,t,G⟩:=aK F
 refine qh _ (fun w c=>az z z underlying30 sizeOf61 (au i) s t) (qh _ (fun w c=>aR z underlying61 z sizeOf4 z) ?_)
 obtain ⟨T,H,u⟩:=Rd.jV i G
 obtain ⟨U,rfl,J,-⟩:=H
 refine qh _ (fun w c=>ao z isAgg4 ((u lr c) 0 _ z)) (tF (v:=.bool (!(k.Has==l.Has))) z z (fun w c=>by kernel_rfl) (qz (.bool _) z (bs b ?_ ?_)))
 {
 intro d b
 cases b
}
 {
 intro d b
 refine qgz f d z (qgz (I6 _) d z (qg _ d (fun w c=>az z z underlying30 sizeOf61 (au h) o p) (qg _ d (fun w c=>aR z underlying61 z sizeOf22 z) (qg _ d (fun w c=>ao z isAgg22 ((q lr c) 1 _ z)) (qg (.string (jf k.Val)) d (fun w c=>qe underlying22 underlying9 underlying5 z (Src.rm c E mO)) (qgz g d z (qgz (I6 _) d z (qg _ d (fun w c=>az z z underlying30 sizeOf61 (au i) s t) (qg _ d (fun w c=>aR z underlying61 z sizeOf22 z) (qg _ d (fun w c=>ao z isAgg22 ((u lr c) 1 _ z)) (qg (.string (jf l.Val)) d (fun w c=>qe underlying22 underlying9 underlying5 z (Src.rm c J mO)) (tF (v:=.bool (!(sEq (jf k.Val) (jf l.Val)))) ((ar z z z (cvb d)).trans z) z (fun w c=>by kernel_rfl) (qh (.bool _) (fun w c=>aE d z z) (fK ?_))))))))))))))
 intro w c
 refine tn (bw b z ?_ ?_)
 {
 intro K b
 cases b
}
 {
 intro K b
 refine wp_skip (bB (tn (wrl (mi z (mi z (mi z (nt ?_)))))))
 cases b
 exact ⟨_,nls,_,m,fy z,c.bQ⟩
}
}
}
 {
 intro A b
 refine wp_exit (aQ (aQ ?_))
 replace b:=bg b m
 refine cZ (tn (ww (mb z (nt (wp_ret ?_)))))
 cases b
 exact aU [.bool true] results78 (rc z ah) ⟨z,c.bQ⟩
}
}
}
theorem sO {a0:(List bM)} {f:Value} {a1:(List bM)} {g:Value} (h:Rd aw R I f a0) (i:Rd aw R I g a1) (b:St w0 w I [] R) {r:(Bool)} (c:gB a0 a1=some r) :
  Calls prog 79 #[f,g] w fun e w'=>e = .returned (.bool r)∧St w0 w' I [] R:=by {
 unfold gB at c
 refine c0 func79 z ntmps79 (ww (mb z (nt (wp_seq (ww (mv (f) z (mz (bW z underlying81 (au h)) (mv (g) z (mz (bW z underlying81 (au i)) (mb z (nt (bw c z ?_ ?_))))))))))))
 {
 intro v c
 cases c
}
 {
 intro v c
 refine wp_skip (tn (wp_seq (ww (mi z (nt (wp_block ?_))))))
 obtain ⟨x,c⟩:=aS c
 refine bf (fun n a w=>∃ (j:Int),cP (fw a0 a1) n j=some r∧fz 44 [0,1,5] [f,g,I6 j] a∧St w0 w I [] R) x ⟨0,c,fy z,b⟩ ?_
 rintro P _ Q ⟨j,c,⟨S,rfl⟩,b⟩
 obtain ⟨T,U,rfl,c,m⟩:=aV c
 dsimp only [fw] at c
 refine wp_seq (ww (mi z (mv (f) z (mz (bW z underlying81 (au h)) (mb z (nt (bw c z ?_ ?_)))))))
 {
 intro y c
 refine wp_skip (tn (wp_seq (wp_block (wp_seq (rg b 27 [0,0,3,7,15,0,0,96,224,480,1023,2047,4095,8191,8191,32767,65535,131071,262143,8191,8191,1581055,3678207,7872511,16261119,33554431,67108863] [] mixed (sz (f) 0 z z (si 1 z z ?_)))))))
 obtain ⟨k,A,c⟩:=bn c
 obtain ⟨o,p,q⟩:=aK A
 refine sh _ 2 z (fun w b=>az z z underlying81 sizeOf152 (au h) o p) (sh _ 3 z (fun w b=>aR z underlying152 z sizeOf37 z) ?_)
 obtain ⟨V,B,C⟩:=Rd.jV h q
 obtain ⟨W,rfl,X,-⟩:=B
 refine sl 4 z z isAgg37 (fun w b=>(C lr b) 0 _ z) (sz (g) 5 z z (si 6 z z ?_))
 obtain ⟨l,D,c⟩:=bn c
 obtain ⟨s,t,u⟩:=aK D
 refine sh _ 7 z (fun w b=>az z z underlying81 sizeOf152 (au i) s t) (sh _ 8 z (fun w b=>aR z underlying152 z sizeOf37 z) ?_)
 obtain ⟨Y,E,F⟩:=Rd.jV i u
 obtain ⟨Z,rfl,b0,-⟩:=E
 refine sl 9 z z isAgg37 (fun w b=>(F lr b) 0 _ z) (e1 10 z z fun w b=>?_)
 obtain ⟨b1,G,c⟩:=bn c
 refine wec call20 [F6 k.At,F6 l.At] z z (kca (et b.to0 G) fun b2 b=>?_)
 replace b:=b.of0
 refine w0n b (sb 11 z z (sb 12 z z (bs c ?_ ?_)))
 {
 intro d c
 cases c
}
 {
 intro d c
 refine sgz f 13 z d z (sgz (I6 _) 14 z d z (sg _ 15 z d (fun w b=>az z z underlying81 sizeOf152 (au h) o p) (sg _ 16 z d (fun w b=>aR z underlying152 z sizeOf22 z) ?_)))
 obtain ⟨b3,H,J⟩:=Rd.jV h q
 obtain ⟨b4,rfl,K,-⟩:=H
 refine sg _ 17 z d (fun w b=>ao z isAgg22 ((J lr b) 1 _ z)) (sg (.string (jf k.Val)) 18 z d (fun w b=>qe underlying22 underlying9 underlying5 z (Src.rm b K mO)) (sgz g 19 z d z (sgz (I6 _) 20 z d z (sg _ 21 z d (fun w b=>az z z underlying81 sizeOf152 (au i) s t) (sg _ 22 z d (fun w b=>aR z underlying152 z sizeOf22 z) ?_)))))
 obtain ⟨b5,L,M⟩:=Rd.jV i u
 obtain ⟨b6,rfl,N,-⟩:=L
 refine sg _ 23 z d (fun w b=>ao z isAgg22 ((M lr b) 1 _ z)) (sg (.string (jf l.Val)) 24 z d (fun w b=>qe underlying22 underlying9 underlying5 z (Src.rm b N mO)) (sgk (.bool (!(sEq (jf k.Val) (jf l.Val)))) 25 z d (sh (.bool _) 26 z (fun w b=>aE d z z) (bi ?_))))
 intro w b
 refine tn (bw c z ?_ ?_)
 {
 intro O c
 cases c
}
 {
 intro O c
 refine wp_skip (bB (tn (wrl (mi z (mi z (mi z (nt ?_)))))))
 cases c
 exact ⟨_,nls,_,m,fy z,b.bQ⟩
}
}
}
 {
 intro y c
 refine wp_exit (aQ (aQ ?_))
 replace c:=bg c m
 refine cZ (tn (ww (mb z (nt (wp_ret ?_)))))
 cases c
 exact aU [.bool true] results79 (rc z ah) ⟨z,b.bQ⟩
}
}
}
theorem oP {a0:bp} {i k:Value} {a1:bp} {j l:Value} (u:Rd aA R I i a0.Gots) (m:Rd (dG aw) R I k a0.Scans) (v:Rd aA R I j a1.Gots) (o:Rd (dG aw) R I l a1.Scans) (c:St w0 w I [] R) {r:(Bool)} (b:eV a0 a1=some r) :
  Calls prog 32 #[.agg #[I6 a0.E,U6 a0.Epoch,U6 a0.Index,i,k],.agg #[I6 a1.E,U6 a1.Epoch,U6 a1.Index,j,l]] w fun e w'=>e = .returned (.bool r)∧St w0 w' I [] R:=by {
 unfold eV at b
 refine c0 func32 z ntmps32 (ww ?_)
 obtain ⟨q,b1,x,y,c⟩:=c.box [I6 a0.E,U6 a0.Epoch,U6 a0.Index,i,k] 33
 refine wa x y ?_
 obtain ⟨s,b2,A,B,c⟩:=c.box [I6 a1.E,U6 a1.Epoch,U6 a1.Index,j,l] 33
 refine wa A B (mb z (nt (wp_seq (ww (mf z underlying33 z sizeOf29 (ml z isAgg29 (c.bc1 z) (mf z underlying33 z sizeOf29 (ml z isAgg29 (c.bc0 z) (mb z (mb z (bs b ?_ ?_)))))))))))
 {
 intro g b
 cases b
}
 {
 intro g b
 refine gg g (aO z underlying33 z sizeOf26 z) (gg g (ao z isAgg26 (c.bc1 z)) (gg g (aO z underlying33 z sizeOf26 z) (gg g (ao z isAgg26 (c.bc0 z)) (gb g z (mb (aE g z z) (mb z (bs b ?_ ?_)))))))
 {
 intro h b
 cases b
}
 {
 intro h b
 refine gg h (aO z underlying33 z sizeOf26 z) (gg h (ao z isAgg26 (c.bc1 z)) (gg h (aO z underlying33 z sizeOf26 z) (gg h (ao z isAgg26 (c.bc0 z)) (gb h z (mb (aE h z z) (mb z (bs b ?_ ?_)))))))
 {
 intro f b
 cases b
}
 {
 intro f b
 refine gg f (aO z underlying33 z sizeOf30 z) (gg f (ao z isAgg30 (c.bc1 z)) (gg f (aO z underlying33 z sizeOf30 z) (gg f (ao z isAgg30 (c.bc0 z)) ?_)))
 obtain ⟨b3,C,b⟩:=bn b
 refine de ((ar z z z (cvb f)).trans z) z (js call78 z (vs:=[i,j]) z) (kca (eo (u.mono (cy _)) (v.mono (cy _)) c.to0 C) fun b4 c=>?_)
 replace c:=c.of0
 refine gb f z (mb (aE f z z) (mb z (bs b ?_ ?_)))
 {
 intro d b
 cases b
}
 {
 intro d b
 refine gg d (aO z underlying33 z sizeOf31 z) (gg d (ao z isAgg31 (c.bc1 z)) (gg d (bW z underlying31 (au m)) (gg d (aO z underlying33 z sizeOf31 z) (gg d (ao z isAgg31 (c.bc0 z)) (gg d (bW z underlying31 (au o)) (gb d z (mb (aE d z z) (nt (bw b z ?_ ?_)))))))))
 {
 intro D b
 cases b
}
 {
 intro D b
 refine wp_skip (tn (wp_seq (ww (mi z (nt (wp_block ?_))))))
 obtain ⟨F,b⟩:=aS b
 refine bf (fun n a w=>∃ (p:Int),cP (fA a0 a1) n p=some r∧fz 61 [2,3,5] [Pt q 0,Pt s 0,I6 p] a∧St w0 w I [cells s [I6 a1.E,U6 a1.Epoch,U6 a1.Index,j,l],cells q [I6 a0.E,U6 a0.Epoch,U6 a0.Index,i,k]] R) F ⟨0,b,fy z,c⟩ ?_
 rintro b5 _ b6 ⟨p,b,⟨b7,rfl⟩,c⟩
 obtain ⟨b8,b9,rfl,b,t⟩:=aV b
 dsimp only [fA] at b
 refine wp_seq (ww (mi z (mf z underlying33 z sizeOf31 (ml z isAgg31 (c.bc1 z) (mz (bW z underlying31 (au m)) (mb z (nt (bw b z ?_ ?_))))))))
 {
 intro G b
 refine wp_skip (tn (wp_seq (wp_block (wp_seq (rg c 12 [0,1,0,7,15,0,32,0,224,480,1023,2047] [] mixed (sf 0 z z underlying33 z sizeOf31 (sl 1 z z isAgg31 (fun w c=>c.bc1 z) (si 2 z z ?_))))))))
 obtain ⟨c1,H,b⟩:=bn b
 obtain ⟨J,K,L⟩:=aK H
 refine sh _ 3 z (fun w c=>az z z underlying31 sizeOf81 (au m) J K) ?_
 obtain ⟨c2,M,N⟩:=Rd.jV m L
 obtain ⟨O,rfl,P,-⟩:=M
 refine sl 4 z z isAgg81 (fun w c=>(N lr c) 0 _ z) (sf 5 z z underlying33 z sizeOf31 (sl 6 z z isAgg31 (fun w c=>c.bc0 z) (si 7 z z ?_)))
 obtain ⟨c3,Q,b⟩:=bn b
 obtain ⟨S,T,U⟩:=aK Q
 refine sh _ 8 z (fun w c=>az z z underlying31 sizeOf81 (au o) S T) ?_
 obtain ⟨c4,V,W⟩:=Rd.jV o U
 obtain ⟨X,rfl,Y,-⟩:=V
 refine sl 9 z z isAgg81 (fun w c=>(W lr c) 0 _ z) (e1 10 z z fun w c=>?_)
 obtain ⟨c5,Z,b⟩:=bn b
 refine wec call79 [O,X] z z (kca (sO (P.mono (cy _)) (Y.mono (cy _)) c.to0 Z) fun c6 c=>?_)
 replace c:=c.of0
 refine w0n c (sb 11 z z (bi ?_))
 intro w c
 refine tn (bw b z ?_ ?_)
 {
 intro b0 b
 cases b
}
 {
 intro b0 b
 refine wp_skip (bB (tn (wrl (mi z (mi z (mi z (nt ?_)))))))
 cases b
 exact ⟨_,nls,_,t,fy z,c.ab.ab.cd⟩
}
}
 {
 intro G b
 refine wp_exit (aQ (aQ ?_))
 replace b:=bg b t
 refine cZ (tn (ww (mb z (nt (wp_ret ?_)))))
 cases b
 exact aU [.bool true] results32 (rc z ah) ⟨z,c.bQ⟩
}
}
}
}
}
}
}
theorem rH {a0:bh} {f g:Value} {a1:bh} {h i:Value} (j:Rd aA R I f a0.R.Gots) (k:Rd (dG aw) R I g a0.R.Scans) (l:Rd aA R I h a1.R.Gots) (m:Rd (dG aw) R I i a1.R.Scans) (a:St w0 w I [] R) {r:(Bool)} (b:ka a0 a1=some r) :
  Calls prog 39 #[.agg #[U1 a0.Kind,U6 a0.ID.Session,U6 a0.ID.Seq,I6 a0.R.E,U6 a0.R.Epoch,U6 a0.R.Index,f,g],.agg #[U1 a1.Kind,U6 a1.ID.Session,U6 a1.ID.Seq,I6 a1.R.E,U6 a1.R.Epoch,U6 a1.R.Index,h,i]] w fun e w'=>e = .returned (.bool r)∧St w0 w' I [] R:=by {
 unfold ka at b
 refine c0 func39 z ntmps39 (ww ?_)
 obtain ⟨u,v,n,o,a⟩:=a.box [U1 a0.Kind,U6 a0.ID.Session,U6 a0.ID.Seq,I6 a0.R.E,U6 a0.R.Epoch,U6 a0.R.Index,f,g] 35
 refine wa n o ?_
 obtain ⟨x,y,p,q,a⟩:=a.box [U1 a1.Kind,U6 a1.ID.Session,U6 a1.ID.Seq,I6 a1.R.E,U6 a1.R.Epoch,U6 a1.R.Index,h,i] 35
 refine wa p q (mb z (nt (ww (mf z underlying35 z sizeOf5 (ml z isAgg5 (a.bc1 z) (mf z underlying35 z sizeOf5 (ml z isAgg5 (a.bc0 z) (mb z (mb z (bs b ?_ ?_))))))))))
 {
 intro c b
 refine gg c (aO z underlying35 z sizeOf28 z) (gg c (av (cs:=[U6 a0.ID.Session,U6 a0.ID.Seq]) z isAgg28 sizeOf28 (a.eI 1 z)) (gg c (aO z underlying35 z sizeOf28 z) (gg c (av (cs:=[U6 a1.ID.Session,U6 a1.ID.Seq]) z isAgg28 sizeOf28 (a.eD 1 z)) (gb c (tQ z z (by kernel_rfl) underlying28 (by kernel_rfl) (by kernel_rfl) (by kernel_rfl) underlying26 underlying26 (fun _ _ _=>by kernel_rfl) (fun _ _ _=>by kernel_rfl)) (mb (aM c z z) (mb z (bs b ?_ ?_)))))))
 {
 intro d b
 refine gg d (aO z underlying35 z sizeOf33 z) (gg d (av (cs:=[I6 a0.R.E,U6 a0.R.Epoch,U6 a0.R.Index,f,g]) z isAgg33 sizeOf33 (a.eI 3 z)) (gg d (aO z underlying35 z sizeOf33 z) (gg d (av (cs:=[I6 a1.R.E,U6 a1.R.Epoch,U6 a1.R.Index,h,i]) z isAgg33 sizeOf33 (a.eD 3 z)) ?_)))
 obtain ⟨s,t,b⟩:=bn b
 refine de ((ar z z z (cvb d)).trans z) z (js call32 z (vs:=[.agg #[I6 a0.R.E,U6 a0.R.Epoch,U6 a0.R.Index,f,g],.agg #[I6 a1.R.E,U6 a1.R.Epoch,U6 a1.R.Index,h,i]]) z) (kca (oP (j.mono (cy _)) (k.mono (cy _)) (l.mono (cy _)) (m.mono (cy _)) a.to0 t) fun A a=>?_)
 replace a:=a.of0
 refine mb (aM d z z) (mb z (nt (wp_ret ?_)))
 obtain rfl:=sj b
 exact aU [.bool s] results39 (rc z ah) ⟨z,a.bQ⟩
}
 {
 intro d b
 cases b
}
}
 {
 intro c b
 cases b
}
}
theorem kJ {a0:(List bA)} {c:Value} (h:RdO aH R I c a0) (a:St w0 w I [] R) {r:(List bA)} (d:dt a0=some r) :
  Calls prog 62 #[c] w fun e w'=>∃ (i:Value),e = .returned (i)∧St w0 w' I [aZ aH i r] R:=by {
 unfold dt at d
 obtain ⟨hg,d⟩:=cw d
 cases d
 have hsv:=tJ h
 refine c0 func62 z ntmps62 (ww (mv ((.slice none 0 0)) z (nt (wp_seq (ww (mv (c) z (mb (tX z hsv z underlying65) (nt (iB (isNil c) (fun f=>?_) (fun f=>?_))))))))))
 {
 refine dq (cvb f) (ww (mv ((.slice none 0 0)) z (nt (wp_ret (aI (aU [Zs] results62 (rc z ah) ?_))))))
 obtain rfl:=List.eq_nil_of_length_eq_zero (qI hsv f)
 exact ⟨_,z,(a.aX aH).bo⟩
}
 {
 refine bT (cvb f) (wp_skip (tn (ww ?_)))
 obtain ⟨b,j,ew,eb,a⟩:=a.er (E:=aH) (xs:=[]) [] 89 0 z bz.nil
 refine bY (v:=(.slice (some ⟨b,0,none⟩) 0 0)) (w':=j) z z (di (by kernel_rfl) ew eb) (mv (c) z ?_)
 obtain ⟨g,k,hr,a⟩:=bE sx underlying65 a (Src.BG a h) (cF hg z) 65
 refine bY (v:=g) (w':=k) z z (bU z z hr) (mv (g) z (nt (wp_ret (aU [g] results62 (rc z ah) ?_))))
 rw [List.nil_append] at a
 exact ⟨_,z,a.bo⟩
}
}
theorem sT {a0:(Option ae)} {p0:Value} (a:St w0 w I [cE aD p0 a0] R) {r:((List bA))} (b:kS a0=some r) :
  Calls prog 23 #[p0] w fun e w'=>∃ (d:Value),e = .returned (d)∧St w0 w' I [aZ aH d r,cE aD p0 a0] R:=by {
 rcases a0 with _ | g
 {
 dsimp only [kS] at b
 cases b
}
 {
 replace a:=bD a
 dsimp only [kS] at b
 refine c0 func23 z ntmps23 (ww (mv ((.slice none 0 0)) z (nt (wp_seq (ww (mv (p0) z ?_))))))
 obtain ⟨h,l,m,n,o,i,p,q,rfl,j⟩:=bc a
 have a:=j
 refine mk (.bool false) (nt (bT z (wp_skip (tn (ww (mp z (mp z (mf z underlying111 z sizeOf65 (ml z isAgg65 (a.bc0 z) ?_)))))))))
 replace a:=a.aW
 obtain ⟨s,f,a⟩:=a.cx
 obtain ⟨t,k,b⟩:=bn b
 refine wc call62 [i] z z z (kcb (kJ (a.EA 0 z f) a.to0 k) fun c u a=>?_)
 replace a:=a.of1.ab.ba f
 refine mv (c) z (nt (wp_ret ?_))
 cases b
 exact aU [c] results23 (rc z ah) ⟨c,z,(aJ (aq (Pt h 0) g a.bH.bH.ay.bH.bH.bH.bH.bH z)).ab.cd⟩
}
}
theorem lO {a0:(List bN)} {g:Value} {a1:(List bN)} {h:Value} (i:Rd cG R I g a0) (j:Rd cG R I h a1) (b:St w0 w I [] R) {r:(Bool)} (c:fI a0 a1=some r) :
  Calls prog 18 #[g,h] w fun e w'=>e = .returned (.bool r)∧St w0 w' I [] R:=by {
 unfold fI at c
 refine c0 func18 z ntmps18 (ww (mb z (nt (wp_seq (ww (mv (g) z (mz (bW z underlying42 (au i)) (mv (h) z (mz (bW z underlying42 (au j)) (mb z (nt (bw c z ?_ ?_))))))))))))
 {
 intro A c
 cases c
}
 {
 intro A c
 refine wp_skip (tn (wp_seq (ww (mi z (nt (wp_block ?_))))))
 obtain ⟨B,c⟩:=aS c
 refine bf (fun n a w=>∃ (m:Int),cP (fe a0 a1) n m=some r∧fz 57 [0,1,5] [g,h,I6 m] a∧St w0 w I [] R) B ⟨0,c,fy z,b⟩ ?_
 rintro Q _ S ⟨m,c,⟨T,rfl⟩,b⟩
 obtain ⟨U,V,rfl,c,t⟩:=aV c
 dsimp only [fe] at c
 refine wp_seq (ww (mi z (mv (g) z (mz (bW z underlying42 (au i)) (mb z (nt (bw c z ?_ ?_)))))))
 {
 intro C c
 refine wp_skip (tn (wp_seq (wp_block (wp_seq (rg b 40 [0,0,3,7,15,0,0,96,224,480,1023,2047,4095,8191,8191,32767,65535,131071,8191,8191,794623,1843199,3940351,8388607,16777215,33554431,67108863,67108863,268435455,536870911,1073741823,2147483647,67108863,67108863,12952010751,30131879935,64491618303,133211095039,274877906943,549755813887] [] mixed (sz (g) 0 z z (si 1 z z ?_)))))))
 obtain ⟨k,D,c⟩:=bn c
 obtain ⟨o,p,u⟩:=aK D
 refine sh _ 2 z (fun w b=>az z z underlying42 sizeOf41 (au i) o p) (sh _ 3 z (fun w b=>aR z underlying41 z sizeOf37 z) ?_)
 obtain ⟨W,E,F⟩:=Rd.jV i u
 obtain ⟨X,rfl,Y,-⟩:=E
 refine sl 4 z z isAgg37 (fun w b=>(F lr b) 0 _ z) (sz (h) 5 z z (si 6 z z ?_))
 obtain ⟨l,G,c⟩:=bn c
 obtain ⟨q,s,v⟩:=aK G
 refine sh _ 7 z (fun w b=>az z z underlying42 sizeOf41 (au j) q s) (sh _ 8 z (fun w b=>aR z underlying41 z sizeOf37 z) ?_)
 obtain ⟨Z,H,J⟩:=Rd.jV j v
 obtain ⟨b0,rfl,b1,-⟩:=H
 refine sl 9 z z isAgg37 (fun w b=>(J lr b) 0 _ z) (e1 10 z z fun w b=>?_)
 obtain ⟨b2,K,c⟩:=bn c
 refine wec call20 [F6 k.At,F6 l.At] z z (kca (et b.to0 K) fun b3 b=>?_)
 replace b:=b.of0
 refine w0n b (sb 11 z z (sb 12 z z (bs c ?_ ?_)))
 {
 intro f c
 cases c
}
 {
 intro f c
 refine sgz g 13 z f z (sgz (I6 _) 14 z f z (sg _ 15 z f (fun w b=>az z z underlying42 sizeOf41 (au i) o p) (sg _ 16 z f (fun w b=>aR z underlying41 z sizeOf4 z) ?_)))
 obtain ⟨b4,L,x⟩:=Rd.jV i u
 obtain ⟨b5,rfl,M,-⟩:=L
 refine sg _ 17 z f (fun w b=>ao z isAgg4 ((x lr b) 1 _ z)) (sgz h 18 z f z (sgz (I6 _) 19 z f z (sg _ 20 z f (fun w b=>az z z underlying42 sizeOf41 (au j) q s) (sg _ 21 z f (fun w b=>aR z underlying41 z sizeOf4 z) ?_))))
 obtain ⟨b6,N,y⟩:=Rd.jV j v
 obtain ⟨b7,rfl,O,-⟩:=N
 refine sg _ 22 z f (fun w b=>ao z isAgg4 ((y lr b) 1 _ z)) (sgk (.bool (!(k.Del==l.Del))) 23 z f (sh (.bool _) 24 z (fun w b=>aE f z z) (sb 25 z z (bs c ?_ ?_))))
 {
 intro d c
 cases c
}
 {
 intro d c
 refine sgz g 26 z d z (sgz (I6 _) 27 z d z (sg _ 28 z d (fun w b=>az z z underlying42 sizeOf41 (au i) o p) (sg _ 29 z d (fun w b=>aR z underlying41 z sizeOf22 z) (sg _ 30 z d (fun w b=>ao z isAgg22 ((x lr b) 2 _ z)) (sg (.string (jf k.Val)) 31 z d (fun w b=>qe underlying22 underlying9 underlying5 z (Src.rm b M mO)) (sgz h 32 z d z (sgz (I6 _) 33 z d z (sg _ 34 z d (fun w b=>az z z underlying42 sizeOf41 (au j) q s) (sg _ 35 z d (fun w b=>aR z underlying41 z sizeOf22 z) (sg _ 36 z d (fun w b=>ao z isAgg22 ((y lr b) 2 _ z)) (sg (.string (jf l.Val)) 37 z d (fun w b=>qe underlying22 underlying9 underlying5 z (Src.rm b O mO)) (sgk (.bool (!(sEq (jf k.Val) (jf l.Val)))) 38 z d (sh (.bool _) 39 z (fun w b=>aE d z z) (bi ?_))))))))))))))
 intro w b
 refine tn (bw c z ?_ ?_)
 {
 intro P c
 cases c
}
 {
 intro P c
 refine wp_skip (bB (tn (wrl (mi z (mi z (mi z (nt ?_)))))))
 cases c
 exact ⟨_,nls,_,t,fy z,b.bQ⟩
}
}
}
}
 {
 intro C c
 refine wp_exit (aQ (aQ ?_))
 replace c:=bg c t
 refine cZ (tn (ww (mb z (nt (wp_ret ?_)))))
 cases c
 exact aU [.bool true] results18 (rc z ah) ⟨z,b.bQ⟩
}
}
}
theorem qK {a0:(List bA)} {q:Value} {a1:(List bA)} {s:Value} (C:Rd aH R I q a0) (D:Rd aH R I s a1) (c:St w0 w I [] R) {r:(Bool)} (b:iF a0 a1=some r) :
  Calls prog 86 #[q,s] w fun e w'=>e = .returned (.bool r)∧St w0 w' I [] R:=by {
 unfold iF at b
 refine c0 func86 z ntmps86 (ww (mb z (nt (wp_seq (ww (mv (q) z (mz (bW z underlying65 (au C)) (mv (s) z (mz (bW z underlying65 (au D)) (mb z (nt (bw b z ?_ ?_))))))))))))
 {
 intro X b
 cases b
}
 {
 intro X b
 refine wp_skip (tn (wp_seq (ww (mi z (nt (wp_block ?_))))))
 obtain ⟨Y,b⟩:=aS b
 refine bf (fun n a w=>∃ (u:Int),cP (fT a0 a1) n u=some r∧fz 123 [0,1,5] [q,s,I6 u] a∧St w0 w I [] R) Y ⟨0,b,fy z,c⟩ ?_
 rintro e9 _ f0 ⟨u,b,⟨f1,rfl⟩,c⟩
 obtain ⟨f2,Z,rfl,b,K⟩:=aV b
 dsimp only [fT] at b
 refine wp_seq (ww (mi z (mv (q) z (mz (bW z underlying65 (au C)) (mb z (nt (bw b z ?_ ?_)))))))
 {
 intro b0 b
 refine wp_skip (tn (wp_seq (wp_block (ww (mb z (nt (wp_seq (ww (mi z (nt (wp_block ?_)))))))))))
 obtain ⟨b1,b⟩:=aS b
 refine bf (fun n a w=>∃ (p:Bool) (x:Int),cP (eY a1 a0 u) n (p,x)=some Z∧fz 123 [0,1,5,6,7] [q,s,I6 u,.bool p,I6 x] a∧St w0 w I [] R) b1 ⟨false,0,b,fy z,c⟩ ?_
 rintro f3 _ f4 ⟨p,x,b,⟨f5,rfl⟩,c⟩
 obtain ⟨f6,b2,rfl,b,t⟩:=aV b
 dsimp only [eY] at b
 refine wp_seq (ww (mi z (mv (s) z (mz (bW z underlying65 (au D)) (mb z (nt (bw b z ?_ ?_)))))))
 {
 intro b3 b
 refine wp_skip (tn (wp_seq (wp_block (ww (mv (q) z (mi z ?_))))))
 obtain ⟨h,b4,b⟩:=bn b
 obtain ⟨b5,b6,b7⟩:=aK b4
 refine mz (az z z underlying65 sizeOf89 (au C) b5 b6) ?_
 obtain ⟨f7,b8,b9⟩:=Rd.jV C b7
 obtain ⟨L,rfl,y,-⟩:=b8
 refine mz (av (cs:=[U6 h.ID.Session,U6 h.ID.Seq,I6 h.E,U6 h.Epoch,U6 h.Index,U6 h.Shards,L]) z isAgg89 sizeOf89 (dO (o:=0) (b9 lr c) z)) ?_
 obtain ⟨M,f8,c1,c2,c⟩:=c.box [Zu,Zu,Zi,Zu,Zu,Zu,Zs] 89
 refine wa c1 c2 (bxk c z sizeOf89 (oJ 6 z (oC (oS (au y)) oN)) fun f9 c=>nt (ww (mv (s) z (mi z ?_))))
 obtain ⟨i,c3,b⟩:=bn b
 obtain ⟨c4,c5,c6⟩:=aK c3
 refine mz (az z z underlying65 sizeOf89 (au D) c4 c5) ?_
 obtain ⟨g0,c7,c8⟩:=Rd.jV D c6
 obtain ⟨N,rfl,A,-⟩:=c7
 refine mz (av (cs:=[U6 i.ID.Session,U6 i.ID.Seq,I6 i.E,U6 i.Epoch,U6 i.Index,U6 i.Shards,N]) z isAgg89 sizeOf89 (dO (o:=0) (c8 lr c) z)) ?_
 obtain ⟨O,g1,c9,d0,c⟩:=c.box [Zu,Zu,Zi,Zu,Zu,Zu,Zs] 89
 refine wa c9 d0 (bxk c z sizeOf89 (oJ 6 z (oC (oS (au A)) oN)) fun g2 c=>nt (ww (mf z underlying89 z sizeOf28 (mz (av (cs:=[U6 h.ID.Session,U6 h.ID.Seq]) z isAgg28 sizeOf28 (c.eI 0 z)) (mf z underlying89 z sizeOf28 (mz (av (cs:=[U6 i.ID.Session,U6 i.ID.Seq]) z isAgg28 sizeOf28 (c.eD 0 z)) (mb (tQ z z (by kernel_rfl) underlying28 (by kernel_rfl) (by kernel_rfl) (by kernel_rfl) underlying26 underlying26 (fun _ _ _=>by kernel_rfl) (fun _ _ _=>by kernel_rfl)) (mb z (bs b ?_ ?_)))))))))
 {
 intro j b
 refine gg j (aO z underlying89 z sizeOf29 z) (gg j (ao z isAgg29 (c.bc1 z)) (gg j (aO z underlying89 z sizeOf29 z) (gg j (ao z isAgg29 (c.bc0 z)) (gb j z (mb (aM j z z) (mb z (bs b ?_ ?_)))))))
 {
 intro k b
 refine gg k (aO z underlying89 z sizeOf26 z) (gg k (ao z isAgg26 (c.bc1 z)) (gg k (aO z underlying89 z sizeOf26 z) (gg k (ao z isAgg26 (c.bc0 z)) (gb k z (mb (aM k z z) (mb z (bs b ?_ ?_)))))))
 {
 intro l b
 refine gg l (aO z underlying89 z sizeOf26 z) (gg l (ao z isAgg26 (c.bc1 z)) (gg l (aO z underlying89 z sizeOf26 z) (gg l (ao z isAgg26 (c.bc0 z)) (gb l z (mb (aM l z z) (mb z (bs b ?_ ?_)))))))
 {
 intro m b
 refine gg m (aO z underlying89 z sizeOf26 z) (gg m (ao z isAgg26 (c.bc1 z)) (gg m (aO z underlying89 z sizeOf26 z) (gg m (ao z isAgg26 (c.bc0 z)) (gb m z (mb (aM m z z) (mb z (bs b ?_ ?_)))))))
 {
 intro g b
 refine gg g (aO z underlying89 z sizeOf47 z) (gg g (ao z isAgg47 (c.bc1 z)) (gg g (bW z underlying47 (au y)) (gg g (aO z underlying89 z sizeOf47 z) (gg g (ao z isAgg47 (c.bc0 z)) (gg g (bW z underlying47 (au A)) (gb g z (mb (aM g z z) (nt (bw b z ?_ ?_)))))))))
 {
 intro d1 b
 refine ww (mb z (nt ?_))
 obtain ⟨d2,b,d3⟩:=bn b
 refine cQ (fun a w=>∃ (F:Bool),(kM p x) F=some b2∧fz 123 [0,1,5,6,7,10] [q,s,I6 u,.bool p,I6 x,.bool F] a∧St w0 w I [] R) ?_ ?_
 {
 refine ww (mi z (nt (wp_block ?_)))
 obtain ⟨d4,b⟩:=aS b
 refine bf (fun n a w=>∃ (G:Bool) (J:Int),cP (ei h i) n (G,J)=some d2∧fz 123 [0,1,5,6,7,8,9,10,11] [q,s,I6 u,.bool p,I6 x,Pt M 0,Pt O 0,.bool G,I6 J] a∧St w0 w I [cells O [U6 i.ID.Session,U6 i.ID.Seq,I6 i.E,U6 i.Epoch,U6 i.Index,U6 i.Shards,N],cells M [U6 h.ID.Session,U6 h.ID.Seq,I6 h.E,U6 h.Epoch,U6 h.Index,U6 h.Shards,L]] R) d4 ⟨true,0,b,fy z,c⟩ ?_
 rintro g3 _ g4 ⟨G,J,b,⟨g5,rfl⟩,c⟩
 obtain ⟨g6,g7,rfl,b,H⟩:=aV b
 dsimp only [ei] at b
 refine wp_seq (ww (mi z (mf z underlying89 z sizeOf47 (ml z isAgg47 (c.bc1 z) (mz (bW z underlying47 (au y)) (mb z (nt (bw b z ?_ ?_))))))))
 {
 intro d5 b
 refine wp_skip (tn (wp_seq (wp_block (rg c 32 [0,1,3,7,3,31,63,127,3,259,3,1795,3843,7939,16383,32767,65535,131071,262143,131071,1048575,2097151,4194303,131071,8519679,131071,58851327,125960191,260177919,536870911,1073741823,2147483647] [31] mixed (sb 0 z z (sb 1 z z (bs b ?_ ?_)))))))
 {
 intro d b
 refine sg _ 2 z d (fun w c=>aO z underlying89 z sizeOf47 z) (sg _ 3 z d (fun w c=>ao z isAgg47 (c.bc1 z)) (sgz (I6 _) 4 z d z ?_))
 obtain ⟨g8,d6,b⟩:=bn b
 obtain ⟨P,Q,d7⟩:=aK d6
 refine sg _ 5 z d (fun w c=>az z z underlying47 sizeOf156 (au y) P Q) (sg _ 6 z d (fun w c=>aR z underlying156 z sizeOf3 z) ?_)
 obtain ⟨g9,d8,S⟩:=Rd.jV y d7
 obtain ⟨d9,rfl,e0,-⟩:=d8
 refine sg _ 7 z d (fun w c=>ao z isAgg3 ((S lr c) 0 _ z)) (sg _ 8 z d (fun w c=>aO z underlying89 z sizeOf47 z) (sg _ 9 z d (fun w c=>ao z isAgg47 (c.bc0 z)) (sgz (I6 _) 10 z d z ?_)))
 obtain ⟨h0,e2,b⟩:=bn b
 obtain ⟨T,U,e3⟩:=aK e2
 refine sg _ 11 z d (fun w c=>az z z underlying47 sizeOf156 (au A) T U) (sg _ 12 z d (fun w c=>aR z underlying156 z sizeOf3 z) ?_)
 obtain ⟨h1,e4,V⟩:=Rd.jV A e3
 obtain ⟨e5,rfl,e6,-⟩:=e4
 refine sg _ 13 z d (fun w c=>ao z isAgg3 ((V lr c) 0 _ z)) (sgz (.bool _) 14 z d z (sh (.bool _) 15 z (fun w c=>aM d z z) (sb 16 z z (bs b ?_ ?_))))
 {
 intro f b
 refine sg _ 17 z f (fun w c=>aO z underlying89 z sizeOf47 z) (sg _ 18 z f (fun w c=>ao z isAgg47 (c.bc1 z)) (sgz (I6 _) 19 z f z (sg _ 20 z f (fun w c=>az z z underlying47 sizeOf156 (au y) P Q) (sg _ 21 z f (fun w c=>aR z underlying156 z sizeOf42 z) (sg _ 22 z f (fun w c=>ao z isAgg42 ((S lr c) 1 _ z)) (sg _ 23 z f (fun w c=>aO z underlying89 z sizeOf47 z) (sg _ 24 z f (fun w c=>ao z isAgg47 (c.bc0 z)) (sgz (I6 _) 25 z f z (sg _ 26 z f (fun w c=>az z z underlying47 sizeOf156 (au A) T U) (sg _ 27 z f (fun w c=>aR z underlying156 z sizeOf42 z) (sg _ 28 z f (fun w c=>ao z isAgg42 ((V lr c) 1 _ z)) (ia 29 (by kernel_rfl) (nxe [30,31] (by kernel_rfl) z ((ar z z z (cvb f)).trans z) ?_)))))))))))))
 clear c
 intro w c
 obtain ⟨W,e7,b⟩:=bn b
 refine wec call18 [d9,e5] z z (kca (lO (e0.mono (cy _)) (e6.mono (cy _)) c.to0 e7) fun h2 c=>?_)
 replace c:=c.of0
 refine w0n c (sh (.bool _) 30 z (fun w c=>aM f z z) (e1 31 z z fun w c=>bS (v:=.bool W) (w':=w) z z (w0n c (bi ?_))))
 intro w c
 refine bB (tn (wrl (mi z (mi z (mi z (nt ?_))))))
 cases b
 exact ⟨_,nls,W,_,H,fy z,c.ab.ab.cd⟩
}
 {
 intro f b
 refine so 17 z f (so 18 z f (so 19 z f (so 20 z f (so 21 z f (so 22 z f (so 23 z f (so 24 z f (so 25 z f (so 26 z f (so 27 z f (so 28 z f (so 29 z f (sh (.bool _) 30 z (fun w c=>aE f z z) (e1 31 z z fun w c=>bS (v:=.bool false) (w':=w) z z (w0n c (bi ?_))))))))))))))))
 intro w c
 refine bB (tn (wrl (mi z (mi z (mi z (nt ?_))))))
 cases b
 exact ⟨_,nls,false,_,H,fy z,c.ab.ab.cd⟩
}
}
 {
 intro d b
 refine so 2 z d (so 3 z d (so 4 z d (so 5 z d (so 6 z d (so 7 z d (so 8 z d (so 9 z d (so 10 z d (so 11 z d (so 12 z d (so 13 z d (so 14 z d (sh (.bool _) 15 z (fun w c=>aE d z z) (sb 16 z z (sq 17 z (sq 18 z (sq 19 z (sq 20 z (sq 21 z (sq 22 z (sq 23 z (sq 24 z (sq 25 z (sq 26 z (sq 27 z (sq 28 z (sq 29 z (sh (.bool _) 30 z (fun w c=>aE z z z) (e1 31 z z fun w c=>bS (v:=.bool false) (w':=w) z z (w0n c (bi ?_)))))))))))))))))))))))))))))))
 intro w c
 refine bB (tn (wrl (mi z (mi z (mi z (nt ?_))))))
 cases b
 exact ⟨_,nls,false,_,H,fy z,c.ab.ab.cd⟩
}
}
 {
 intro d5 b
 refine wp_exit (aQ (aQ ?_))
 replace b:=bg b H
 refine cZ (tn ?_)
 obtain rfl:=sj b
 exact ⟨G,d3,fy z,c.bQ⟩
}
}
 {
 rintro _ h3 ⟨F,b,⟨h4,rfl⟩,c⟩
 dsimp only [kM] at b
 refine wrl (mb z (mb z (bs b ?_ ?_)))
 {
 intro B b
 refine go B (mb (aM B z z) (mb z (dk (bB (tn (wrl (mi z (mi z (mi z (nt ?_))))))))))
 cases b
 exact ⟨_,nls,true,_,t,fy z,c.bQ⟩
}
 {
 intro B b
 refine gb B z (mb (aE B z z) (mb z (dk (bB (tn (wrl (mi z (mi z (mi z (nt ?_))))))))))
 cases b
 exact ⟨_,nls,F,_,t,fy z,c.bQ⟩
}
}
}
 {
 intro d1 b
 refine wp_skip (bB (tn (wrl (mi z (mi z (mi z (nt ?_)))))))
 cases b
 exact ⟨_,nls,p,_,t,fy z,c.bQ⟩
}
}
 {
 intro g b
 refine go g (go g (go g (go g (go g (go g (go g (mb (aE g z z) (nt (bT z (wp_skip (bB (tn (wrl (mi z (mi z (mi z (nt ?_)))))))))))))))))
 cases b
 exact ⟨_,nls,p,_,t,fy z,c.bQ⟩
}
}
 {
 intro m b
 refine go m (go m (go m (go m (go m (mb (aE m z z) (mb z (gz (gz (gz (gz (gz (gz (gz (mb (aE z z z) (nt (bT z (wp_skip (bB (tn (wrl (mi z (mi z (mi z (nt ?_))))))))))))))))))))))))
 cases b
 exact ⟨_,nls,p,_,t,fy z,c.bQ⟩
}
}
 {
 intro l b
 refine go l (go l (go l (go l (go l (mb (aE l z z) (mb z (gz (gz (gz (gz (gz (mb (aE z z z) (mb z (gz (gz (gz (gz (gz (gz (gz (mb (aE z z z) (nt (bT z (wp_skip (bB (tn (wrl (mi z (mi z (mi z (nt ?_)))))))))))))))))))))))))))))))
 cases b
 exact ⟨_,nls,p,_,t,fy z,c.bQ⟩
}
}
 {
 intro k b
 refine go k (go k (go k (go k (go k (mb (aE k z z) (mb z (gz (gz (gz (gz (gz (mb (aE z z z) (mb z (gz (gz (gz (gz (gz (mb (aE z z z) (mb z (gz (gz (gz (gz (gz (gz (gz (mb (aE z z z) (nt (bT z (wp_skip (bB (tn (wrl (mi z (mi z (mi z (nt ?_))))))))))))))))))))))))))))))))))))))
 cases b
 exact ⟨_,nls,p,_,t,fy z,c.bQ⟩
}
}
 {
 intro j b
 refine go j (go j (go j (go j (go j (mb (aE j z z) (mb z (gz (gz (gz (gz (gz (mb (aE z z z) (mb z (gz (gz (gz (gz (gz (mb (aE z z z) (mb z (gz (gz (gz (gz (gz (mb (aE z z z) (mb z (gz (gz (gz (gz (gz (gz (gz (mb (aE z z z) (nt (bT z (wp_skip (bB (tn (wrl (mi z (mi z (mi z (nt ?_)))))))))))))))))))))))))))))))))))))))))))))
 cases b
 exact ⟨_,nls,p,_,t,fy z,c.bQ⟩
}
}
 {
 intro b3 b
 refine wp_exit (aQ (aQ ?_))
 replace b:=bg b t
 refine cZ (tn (ww (mb z (mb z (nt (bw b z ?_ ?_))))))
 {
 intro e8 b
 cases b
}
 {
 intro e8 b
 refine wp_skip (bB (tn (wrl (mi z (mi z (mi z (nt ?_)))))))
 cases b
 exact ⟨_,nls,_,K,fy z,c.bQ⟩
}
}
}
 {
 intro b0 b
 refine wp_exit (aQ (aQ ?_))
 replace b:=bg b K
 refine cZ (tn (ww (mb z (nt (wp_ret ?_)))))
 cases b
 exact aU [.bool true] results86 (rc z ah) ⟨z,c.bQ⟩
}
}
}
theorem sW {a0:(Option bZ)} {p0:Value} (a:St w0 w I [cE bP p0 a0] R) {r:(Int)} (b:kP a0=some r) :
  Calls prog 169 #[p0] w fun e w'=>e = .returned (.int .i64 r)∧St w0 w' I [cE bP p0 a0] R:=by {
 rcases a0 with _ | c
 {
 dsimp only [kP] at b
 cases b
}
 {
 replace a:=bD a
 dsimp only [kP] at b
 refine c0 func169 z ntmps169 (ww (mi z (nt (wp_seq (ww (mv (p0) z ?_))))))
 obtain ⟨d,g,rfl,f⟩:=dB a
 have a:=f
 refine mk (.bool false) (nt (bT z (wp_skip (tn (ww (mp z (mp z (mf z underlying203 z sizeOf125 (ml z isAgg125 (a.bc0 z) (mz (bW z underlying125 a.sv1) (mi z (nt (wp_ret ?_)))))))))))))
 cases b
 exact aU [I6 ((c.l).length:Int)] results169 (rc z ah) ⟨z,(aJ (dl (Pt d 0) c a.ab.ab z)).bo⟩
}
}
theorem sR {a0:(Option bZ)} {p0:Value} (b:St w0 w I [cE bP p0 a0] R) {r:((List bK))} (c:ir a0=some r) :
  Calls prog 155 #[p0] w fun e w'=>∃ (k:Value),e = .returned (k)∧St w0 w' I [aZ lW k r,cE bP p0 a0] R:=by {
 rcases a0 with _ | h
 {
 dsimp only [ir] at c
 cases c
}
 {
 replace b:=bD b
 dsimp only [ir] at c
 refine c0 func155 z ntmps155 (ww (mv ((.slice none 0 0)) z (nt (ww (mv ((.slice none 0 0)) z (nt (wp_seq (ww (mv (p0) z ?_)))))))))
 replace b:=aJ b
 obtain ⟨l,p,c⟩:=bn c
 refine wc call169 [p0] z z z (kca (sW b.to1 p) fun N b=>?_)
 replace b:=bD b.of1
 refine mi z (nt (wp_block ?_))
 replace b:=b.aX lW
 obtain ⟨q,c⟩:=aS c
 refine bf (fun n a w=>∃ (g:(List bK)) (i:Int) (d:Value),cP (gK l h) n (g,i)=some r∧fz 23 [0,3,6,7] [p0,d,I6 l,I6 i] a∧St w0 w I [aZ lW d g,bP p0 h] R) q ⟨[],0,Zs,c,fy z,b⟩ ?_
 rintro O _ P ⟨g,i,d,c,⟨Q,rfl⟩,b⟩
 obtain ⟨S,T,rfl,c,m⟩:=aV c
 dsimp only [gK] at c
 refine ww (mb z (nt (wp_seq (bw c z ?_ ?_))))
 {
 intro s c
 refine wp_skip (tn (wp_seq (wp_block (ww (mi z (mi z (nt (wrl (mv (d) z (mv (p0) z ?_))))))))))
 obtain ⟨t,U,rfl,u⟩:=dB b.ab
 have b:=u
 refine mp z (mf z underlying203 z sizeOf125 (ml z isAgg125 (b.bc0 z) (mi z ?_)))
 obtain ⟨f,x,c⟩:=bn c
 obtain ⟨y,A,B⟩:=aK x
 refine mz (az z z underlying125 sizeOf46 b.sv1 y A) (mz (aR z underlying46 z sizeOf28 z) ?_)
 obtain ⟨V,C,D⟩:=b.og1 B
 obtain ⟨W,X,Y,Z,rfl,b0,b1,b2,b3,-⟩:=C
 refine mz (av (cs:=[U6 f.ID.Session,U6 f.ID.Seq]) z isAgg28 sizeOf28 (dO (o:=0) D z)) ?_
 obtain ⟨F,G,H,J,b⟩:=b.er (E:=lW) (xs:=[f.ID]) [[U6 f.ID.Session,U6 f.ID.Seq]] 28 1 z (bz.cons z bz.nil)
 refine bY (v:=(.slice (some ⟨F,0,none⟩) 1 1)) (w':=G) z z (di (by kernel_rfl) H J) ?_
 obtain ⟨K,c⟩:=cw c
 replace b:=b.ap
 obtain ⟨j,L,M,b⟩:=bE CA underlying159 b b.jr (cF K z) 159
 refine bY (v:=j) (w':=L) z z (bU z z M) (mv (j) z (dk (bB (tn (wrl (mi z (mi z (nt ?_))))))))
 cases c
 exact ⟨_,nls,(g++([f.ID])),_,j,m,fy z,(dl (Pt t 0) h b.ap.ap z).ab.cd⟩
}
 {
 intro s c
 refine wp_exit (aQ (aQ ?_))
 replace c:=bg c m
 refine cZ (tn (ww (mv (d) z (mv (d) z (nt (wp_ret ?_))))))
 cases c
 exact aU [d] results155 (rc z ah) ⟨d,z,(aJ b.ab).ab.cd⟩
}
}
}
end Go.Proofs.YtgnkkopjkgdieaaGreat
