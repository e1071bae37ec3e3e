/- A part of the proof. -/
import Derived.Test.YtgnkkopjkgdieaaGreatLanePlaysR2
set_option linter.unusedVariables false
set_option linter.unusedSimpArgs false
set_option maxRecDepth 100000
set_option maxHeartbeats 4000000
namespace Go.Proofs.YtgnkkopjkgdieaaGreat
open Go Go.V
open _root_.Go.Proofs.Tryz IntKind
variable {w0 w:World} {I:HL} {R:SP}
attribute [local irreducible] wpList Code.wp wpQuiet Calls bodyPost Oper.wp wpS Nx gE YieldsIn
theorem rv {a0:(Option ae)} {p0:Value} {a1:Int} {a2:aC} {x y A B C m n q:Value} (f8:Ro bV I x a2.Hold.Gets) (f9:Ro gn I y a2.Hold.Scans) (g0:Ro bV I A a2.Hold.Puts) (g1:Ro (cg .u8) I B a2.Hold.Data) (g2:Ro cG I C a2.Writes) (M:Ro aA I m a2.R.Gots) (N:Ro (dG aw) I n a2.R.Scans) (b8:Ro cJ I q a2.Parts) (b:St w0 w I [cE aD p0 a0] R) {r:(bh×(Option ae))} (c:fO a0 a1 a2=some r) :
  Calls prog 50 #[p0,U6 a1,.agg #[U1 a2.Kind,U6 a2.ID.Session,U6 a2.ID.Seq,U6 a2.Epoch,U6 a2.Index,I6 a2.E,U6 a2.Hold.ID.Session,U6 a2.Hold.ID.Seq,U6 a2.Hold.Epoch,x,y,A,B,C,I6 a2.R.E,U6 a2.R.Epoch,U6 a2.R.Index,m,n,U6 a2.Shards,q,U6 a2.Rule.ID,I6 a2.Rule.From,I6 a2.Rule.To,F6 a2.Rule.Lo,F6 a2.Rule.Hi,U6 a2.Rule.Authority,I6 a2.Rule.Quota,.bool a2.On]] w fun e w'=>∃ (I':HL) (Z:Value) (b0:Value),e = .returned (.agg #[U1 r.1.Kind,U6 r.1.ID.Session,U6 r.1.ID.Seq,I6 r.1.R.E,U6 r.1.R.Epoch,U6 r.1.R.Index,Z,b0])∧I.le I'∧Ro aA I' Z r.1.R.Gots∧Ro (dG aw) I' b0 r.1.R.Scans∧St w0 w' I' [cE aD p0 r.2] R:=by {
 rcases a0 with _ | d
 {
 dsimp only [fO] at c
 cases c
}
 {
 replace b:=bD b
 dsimp only [fO] at c
 refine c0 func50 z ntmps50 ?_
 have p:=HL.le.refl I
 refine ww ?_
 obtain ⟨s,g3,b9,c1,b⟩:=b.box [U1 a2.Kind,U6 a2.ID.Session,U6 a2.ID.Seq,U6 a2.Epoch,U6 a2.Index,I6 a2.E,U6 a2.Hold.ID.Session,U6 a2.Hold.ID.Seq,U6 a2.Hold.Epoch,x,y,A,B,C,I6 a2.R.E,U6 a2.R.Epoch,U6 a2.R.Index,m,n,U6 a2.Shards,q,U6 a2.Rule.ID,I6 a2.Rule.From,I6 a2.Rule.To,F6 a2.Rule.Lo,F6 a2.Rule.Hi,U6 a2.Rule.Authority,I6 a2.Rule.Quota,.bool a2.On] 49
 refine wa b9 c1 ?_
 obtain ⟨t,g4,c2,c3,b⟩:=b.box [Zb,Zu,Zu,Zi,Zu,Zu,Zs,Zs] 35
 refine wa c2 c3 (nt (ww (mf z underlying49 z sizeOf33 (mz (av (cs:=[I6 a2.R.E,U6 a2.R.Epoch,U6 a2.R.Index,m,n]) z isAgg33 sizeOf33 (b.eI 14 z)) ?_))))
 obtain ⟨u,g5,c4,c5,b⟩:=b.box [Zi,Zu,Zu,Zs,Zs] 33
 refine wa c4 c5 (bxk b z sizeOf33 (oJ 3 z (oC (oS (ag M)) (oC (oS (ag N)) oN))) fun g6 b=>nt (ww (mf z underlying49 z sizeOf26 (ml z isAgg26 (b.bc2 z) (mi z (mf z underlying33 z sizeOf26 (byk (U6 a2.Epoch) b z sizeOf26 (oC z oN) fun g7 b=>mf z underlying33 z sizeOf26 (byk (U6 a1) b z sizeOf26 (oC z oN) fun g8 b=>nt ?_))))))))
 obtain ⟨g9,c,O⟩:=bn c
 refine cQ (fun a w=>∃ (f:Int) (D:(List cp)) (F:(List (List bM))) (i:Value) (j:Value),(gZ a2 d a1) (f,D,F)=some r∧fz 103 [0,1,5,6,7] [p0,U6 a1,Pt s 0,Pt t 0,Pt u 0] a∧Ro aA I i D∧Ro (dG aw) I j F∧St w0 w I [aD p0 d,cells s [U1 a2.Kind,U6 a2.ID.Session,U6 a2.ID.Seq,U6 a2.Epoch,U6 a2.Index,I6 a2.E,U6 a2.Hold.ID.Session,U6 a2.Hold.ID.Seq,U6 a2.Hold.Epoch,x,y,A,B,C,I6 a2.R.E,U6 a2.R.Epoch,U6 a2.R.Index,m,n,U6 a2.Shards,q,U6 a2.Rule.ID,I6 a2.Rule.From,I6 a2.Rule.To,F6 a2.Rule.Lo,F6 a2.Rule.Hi,U6 a2.Rule.Authority,I6 a2.Rule.Quota,.bool a2.On],cells t [Zb,Zu,Zu,Zi,Zu,Zu,Zs,Zs],cells u [I6 f,U6 a2.Epoch,U6 a1,i,j]] R) ?_ ?_
 {
 refine wp_seq ?_
 obtain ⟨P,h0,h1,h2,h3,h4,h5,h6,rfl,c6⟩:=bc b.ap
 have b:=c6
 refine dL b mixed (by kernel_rfl) (qh _ (fun w b=>aO z underlying33 z sizeOf29 z) (qh _ (fun w b=>ao z isAgg29 (b.bc8 z)) (qz (.bool _) z (qz (.bool _) z (bs c ?_ ?_)))))
 {
 intro g c
 refine qg _ g (fun w b=>aO z underlying49 z sizeOf26 z) (qg _ g (fun w b=>ao z isAgg26 (b.uz z)) (qgz (Pt _ _) g z (qgz (Pt _ _) g z (qg _ g (fun w b=>aO z underlying111 z sizeOf26 z) (qg _ g (fun w b=>ao z isAgg26 (b.bc0 z)) (qgz (.bool _) g z (qh (.bool _) (fun w b=>aM g z z) (fK ?_))))))))
 intro w b
 refine tn (bw c z ?_ ?_)
 {
 intro c7 c
 refine wrl (mf z underlying49 z sizeOf26 (ml z isAgg26 (b.uz z) (mi z (mk (.agg #[I6 9,U6 a2.Epoch,U6 a1,Zs,Zs]) ?_))))
 replace b:=b.bH
 refine bxk b z sizeOf33 (oJ 5 z oN) fun h7 b=>nt ?_
 have c8:Ro aA I (.slice none 0 0) []:=cv
 have c9:Ro (dG aw) I (.slice none 0 0) []:=cv
 cases c
 exact ⟨_,([]),([]),Zs,Zs,O,fy z,c8,c9,(aq (Pt P 0) d b.bH.bH.bH.bH.bH.bH.bH.bH z).ab.ay.ap.ap.eF⟩
}
 {
 intro c7 c
 refine wp_skip (tn ?_)
 cases c
 exact ⟨_,_,_,m,n,O,fy z,M,N,(aq (Pt P 0) d b.aG.aG.aG.aG.aG.aG.aG.aG z).ab.ay.ap.ap.eF⟩
}
}
 {
 intro g c
 refine qo g (qo g (qo g (qo g (qo g (qo g (qo g (qh (.bool _) (fun w b=>aE g z z) (fK ?_))))))))
 intro w b
 refine tn (bT z (wp_skip (tn ?_)))
 cases c
 exact ⟨_,_,_,m,n,O,fy z,M,N,(aq (Pt P 0) d b.aG.aG.aG.aG.aG.aG.aG.aG z).ab.ay.ap.ap.eF⟩
}
}
 {
 rintro _ h8 ⟨f,D,F,i,j,c,⟨h9,rfl⟩,G,H,b⟩
 dsimp only [gZ] at c
 obtain ⟨i0,c,Q⟩:=dY c
 refine cQ (fun a w =>(jK d a2 f a1 D F) ()=some r∧fz 103 [0,1,5,6,7] [p0,U6 a1,Pt s 0,Pt t 0,Pt u 0] a∧St w0 w I [aD p0 d,cells s [U1 a2.Kind,U6 a2.ID.Session,U6 a2.ID.Seq,U6 a2.Epoch,U6 a2.Index,I6 a2.E,U6 a2.Hold.ID.Session,U6 a2.Hold.ID.Seq,U6 a2.Hold.Epoch,x,y,A,B,C,I6 a2.R.E,U6 a2.R.Epoch,U6 a2.R.Index,m,n,U6 a2.Shards,q,U6 a2.Rule.ID,I6 a2.Rule.From,I6 a2.Rule.To,F6 a2.Rule.Lo,F6 a2.Rule.Hi,U6 a2.Rule.Authority,I6 a2.Rule.Quota,.bool a2.On],cells t [Zb,Zu,Zu,Zi,Zu,Zu,Zs,Zs],cells u [I6 f,U6 a2.Epoch,U6 a1,i,j]] R) ?_ ?_
 {
 refine ww (mf z underlying33 z sizeOf29 (ml z isAgg29 (b.bc3 z) (mb z (mb z (bs c ?_ ?_)))))
 {
 intro l c
 refine gg l (aO z underlying49 z sizeOf28 z) (gg l (aO z underlying28 z sizeOf26 z) (gg l (ao z isAgg26 (b.bc1 z)) (gb l z (mb (aM l z z) (nt (bw c z ?_ ?_))))))
 {
 intro d0 c
 refine ww (mk (.agg #[Zb,Zu,Zu,Zi,Zu,Zu,Zs,Zs]) ?_)
 replace b:=b.ay
 refine bxk b z sizeOf35 (oJ 8 z oN) fun i1 b=>nt (wp_ret (aI ?_))
 replace c:=bg c Q
 have d1:Ro aA I (.slice none 0 0) []:=cv
 have d2:Ro (dG aw) I (.slice none 0 0) []:=cv
 replace b:=aJ b.ab
 cases c
 exact aU [.agg #[Zb,Zu,Zu,Zi,Zu,Zu,Zs,Zs]] results50 (bj (bF (cs:=[Zb,Zu,Zu,Zi,Zu,Zu,Zs,Zs]) z isAgg35 sizeOf35 (b.eI 0 z)) ah) ⟨_,Zs,Zs,z,p,d1,d2,b.bo⟩
}
 {
 intro d0 c
 refine wp_skip (tn ?_)
 cases c
 exact ⟨Q,fy z,b.ap.ap.ap.ap.eF⟩
}
}
 {
 intro l c
 refine go l (go l (go l (go l (mb (aE l z z) (nt (bT z (wp_skip (tn ?_))))))))
 cases c
 exact ⟨Q,fy z,b.ap.ap.ap.ap.eF⟩
}
}
 {
 rintro _ i2 ⟨c,⟨i3,rfl⟩,b⟩
 dsimp only [jK] at c
 refine wp_seq (wp_seq ?_)
 obtain ⟨o,i4,i5,d3,i6,i7,i8,i9,rfl,d4⟩:=bc b
 have b:=d4
 refine rg b 13 [0,1,3,7,0,16,48,0,128,384,0,2047,4095] [] mixed (sp 0 z z (sp 1 z z (sf 2 z z underlying111 z sizeOf105 (sl 3 z z isAgg105 (fun w b=>b.bc0 z) (sf 4 z z underlying49 z sizeOf28 (sf 5 z z underlying28 z sizeOf26 (sl 6 z z isAgg26 (fun w b=>b.bc8 z) (sf 7 z z underlying49 z sizeOf28 (sf 8 z z underlying28 z sizeOf26 (sl 9 z z isAgg26 (fun w b=>b.bc8 z) (sh _ 10 z (fun w b=>av (cs:=[I6 f,U6 a2.Epoch,U6 a1,i,j]) z isAgg33 sizeOf33 (b.El 0 z)) (e1 11 z z fun w b=>?_))))))))))))
 replace b:=b.ap
 obtain ⟨h,d5,c⟩:=bn c
 refine wec call124 [d3,U6 a2.ID.Session,U6 a2.ID.Seq,.agg #[I6 f,U6 a2.Epoch,U6 a1,i,j]] z z (kca (nR (a3:=({E:=f,Epoch:=a2.Epoch,Index:=a1,Gots:=D,Scans:=F}:bp)) G H b.to1 d5) fun j0 b=>?_)
 replace b:=b.of1
 refine w0n b (sb 12 z z (bi ?_))
 intro w b
 refine tn (bw c z ?_ ?_)
 {
 intro d6 c
 refine ww (mp z (mf z underlying49 z sizeOf28 (mz (av (cs:=[U6 a2.ID.Session,U6 a2.ID.Seq]) z isAgg28 sizeOf28 (b.wG 1 z)) ?_)))
 replace b:=aJ (aq (Pt o 0) (({d with last:=h.2}:ae)) b.aG.aG.aG.aG.aY.aG.aG.aG z)
 obtain ⟨k,d7,c⟩:=bn c
 refine wc call125 [Pt o 0,.agg #[U6 a2.ID.Session,U6 a2.ID.Seq]] z z z ((oU b.to1 d7).mono ?_)
 rintro _ j1 ⟨S,T,rfl,b⟩
 refine ⟨_,z,?_⟩
 replace b:=(bD b.of3.ay).aY
 refine bxk b z sizeOf35 (oJ 6 z (oC (oS b.sv2) (oC (oS b.sv3) oN))) fun j2 b=>nt (wp_ret (aI ?_))
 replace b:=b.ay
 obtain ⟨I399,d8,U,b⟩:=b.cK
 replace p:=p.trans d8
 replace b:=b.ay
 obtain ⟨I402,b1,d9,b⟩:=b.cK
 replace U:=U.mono (ro_le b1)
 replace p:=p.trans b1
 replace b:=aJ b.ab
 cases c
 exact aU [.agg #[U1 k.Kind,U6 k.ID.Session,U6 k.ID.Seq,I6 k.R.E,U6 k.R.Epoch,U6 k.R.Index,S,T]] results50 (bj (bF (cs:=[U1 k.Kind,U6 k.ID.Session,U6 k.ID.Seq,I6 k.R.E,U6 k.R.Epoch,U6 k.R.Index,S,T]) z isAgg35 sizeOf35 (b.eI 0 z)) ah) ⟨_,S,T,z,p,U,d9,b.bo⟩
}
 {
 intro d6 c
 refine wp_skip (tn ?_)
 obtain ⟨e0,c,b2⟩:=bn c
 refine cQ (fun a w=>∃ (I473:HL) (V:ae),(jJ a2 f a1 D F) V=some r∧fz 103 [5,6,7] [Pt s 0,Pt t 0,Pt u 0] a∧I.le I473∧St w0 w I473 [cells s [U1 a2.Kind,U6 a2.ID.Session,U6 a2.ID.Seq,U6 a2.Epoch,U6 a2.Index,I6 a2.E,U6 a2.Hold.ID.Session,U6 a2.Hold.ID.Seq,U6 a2.Hold.Epoch,x,y,A,B,C,I6 a2.R.E,U6 a2.R.Epoch,U6 a2.R.Index,m,n,U6 a2.Shards,q,U6 a2.Rule.ID,I6 a2.Rule.From,I6 a2.Rule.To,F6 a2.Rule.Lo,F6 a2.Rule.Hi,U6 a2.Rule.Authority,I6 a2.Rule.Quota,.bool a2.On],cells t [Zb,Zu,Zu,Zi,Zu,Zu,Zs,Zs],cells u [I6 f,U6 a2.Epoch,U6 a1,i,j],aD (Pt o 0) V] R) ?_ ?_
 {
 have K:=HL.le.refl I
 refine ww (mf z underlying49 z sizeOf26 (ml z isAgg26 (b.bc8 z) (mb z (nt (bw c z ?_ ?_)))))
 {
 intro e2 c
 refine ww (mf z underlying49 z sizeOf28 (mz (av (cs:=[U6 a2.ID.Session,U6 a2.ID.Seq]) z isAgg28 sizeOf28 (b.wG 1 z)) (mf z underlying33 z sizeOf29 (ml z isAgg29 (b.uz z) (mf z underlying49 z sizeOf26 (ml z isAgg26 (b.bc8 z) (mi z (mf z underlying49 z sizeOf26 (ml z isAgg26 (b.bc8 z) (mk (.agg #[U6 a2.ID.Session,U6 a2.ID.Seq,I6 f,U6 a2.Epoch,U6 a1,U6 a2.Shards,Zs]) ?_))))))))))
 obtain ⟨b3,j3,e3,e4,b⟩:=b.box [Zu,Zu,Zi,Zu,Zu,Zu,Zs] 89
 refine wa e3 e4 (bxk b z sizeOf89 (oJ 7 z oN) fun j4 b=>nt ?_)
 obtain ⟨j5,c,b4⟩:=bn c
 refine cQ (fun a w=>∃ (L:(List dX)) (J:Value),(jO d h a2 f a1) L=some e0∧fz 103 [0,5,6,7,8] [Pt o 0,Pt s 0,Pt t 0,Pt u 0,Pt b3 0] a∧St w0 w I [aD (Pt o 0) ({d with last:=h.2}:ae),cells s [U1 a2.Kind,U6 a2.ID.Session,U6 a2.ID.Seq,U6 a2.Epoch,U6 a2.Index,I6 a2.E,U6 a2.Hold.ID.Session,U6 a2.Hold.ID.Seq,U6 a2.Hold.Epoch,x,y,A,B,C,I6 a2.R.E,U6 a2.R.Epoch,U6 a2.R.Index,m,n,U6 a2.Shards,q,U6 a2.Rule.ID,I6 a2.Rule.From,I6 a2.Rule.To,F6 a2.Rule.Lo,F6 a2.Rule.Hi,U6 a2.Rule.Authority,I6 a2.Rule.Quota,.bool a2.On],cells t [Zb,Zu,Zu,Zi,Zu,Zu,Zs,Zs],cells u [I6 f,U6 a2.Epoch,U6 a1,i,j],cells b3 [U6 a2.ID.Session,U6 a2.ID.Seq,I6 f,U6 a2.Epoch,U6 a1,U6 a2.Shards,J],aZ cJ J L] R) ?_ ?_
 {
 refine ww (mf z underlying33 z sizeOf29 (ml z isAgg29 (b.FG z) (mb z (nt (bw c z ?_ ?_)))))
 {
 intro e5 c
 refine wrl (mf z underlying49 z sizeOf47 (ml z isAgg47 (b.bc9 z) ?_))
 obtain ⟨e6,e7,c⟩:=bn c
 refine wc call126 [q] z z z (kcb (mX (RdO.xk b8 _) b.to0 e7) fun b5 j6 b=>?_)
 replace b:=b.of1
 refine mf z underlying89 z sizeOf47 ?_
 replace b:=b.ab
 refine b1k b5 b z (oS b.sv1) sizeOf47 fun j7 b=>nt ?_
 obtain rfl:=sj c
 exact ⟨e6,b5,b4,fy z,(aq (Pt o 0) (({d with last:=h.2}:ae)) b.bO.bO.bO.bO.cV.bO.bO.bO z).ay.ay.aW.aW.aW.aW.km⟩
}
 {
 intro e5 c
 refine wp_skip (tn ?_)
 cases c
 exact ⟨([]),Zs,b4,fy z,(aq (Pt o 0) (({d with last:=h.2}:ae)) (b.aX cJ).bO.bO.bO.bO.cV.bO.bO.bO z).ab.ay.aW.aW.aW.aW.km⟩
}
}
 {
 rintro _ j8 ⟨L,J,c,⟨j9,rfl⟩,b⟩
 dsimp only [jO] at c
 refine ww (mp z (mf z underlying49 z sizeOf28 (mz (av (cs:=[U6 a2.ID.Session,U6 a2.ID.Seq]) z isAgg28 sizeOf28 (b.eI 1 z)) ?_)))
 replace b:=aJ b
 obtain ⟨W,e8,c⟩:=bn c
 refine wc call51 [Pt o 0,.agg #[U6 a2.ID.Session,U6 a2.ID.Seq]] z z z (kca (oX b.to1 e8) fun k0 b=>?_)
 replace b:=bD b.of1
 refine mv (.tuple #[I6 W.1,.bool W.2]) z (mi z (mb z (mi z (mb z (nt ?_)))))
 obtain ⟨k1,k2,k3,k4,k5,e9,k6,k7,X,f0⟩:=bc b
 replace X:=dF X
 subst X
 have b:=f0
 refine rg b 12 [0,0,2,6,14,0,0,64,254,511,1023,2047] [] mixed (sp 0 z z (sp 1 z z (sp 2 z z (sf 3 z z underlying111 z sizeOf65 (sl 4 z z isAgg65 (fun w b=>b.bc0 z) (si 5 z z (sh _ 6 z (fun w b=>av (cs:=[U6 a2.ID.Session,U6 a2.ID.Seq,I6 f,U6 a2.Epoch,U6 a1,U6 a2.Shards,J]) z isAgg89 sizeOf89 (b.FD 0 z)) (e1 7 z z fun w b=>?_))))))))
 replace b:=b.nz
 obtain ⟨I455,f1,b6,b⟩:=b.cK
 replace K:=K.trans f1
 obtain ⟨b7,f2,f3,f4,b⟩:=b.er (E:=aH) (xs:=[({a2 with E:=f,Index:=a1,Parts:=L}:bA)]) [[U6 a2.ID.Session,U6 a2.ID.Seq,I6 f,U6 a2.Epoch,U6 a1,U6 a2.Shards,J]] 89 1 z (bz.cons ⟨_,z,b6,oS (ag b6)⟩ bz.nil)
 refine bS (v:=(.slice (some ⟨b7,0,none⟩) 1 1)) (w':=f2) z (di (by kernel_rfl) f3 f4) (wn [5,4,3,2,1,0] b (pz (pkr z z (fun w b=>ao z isAgg65 (b.bc1 z)) (pf z z underlying111 z sizeOf65 (pz (pz (pz bu)))))) (e1 8 z z fun w b=>?_))
 replace b:=b.cV
 obtain ⟨f5,f6,c⟩:=bn c
 refine wec call127 [e9,I6 W.1,(.slice (some ⟨b7,0,none⟩) 1 1)] z z (kcb (kt b.to2 f6) fun f7 k8 b=>?_)
 replace b:=b.of1
 refine wn [0] b (pz bu) (sp 9 z z (sf 10 z z underlying111 z sizeOf65 (e1 11 z z fun w b=>?_)))
 replace b:=b.ab
 refine b1e f7 b z (oS b.sv1) sizeOf65 fun k9 b=>w0n b (bi ?_)
 intro w b
 refine tn ?_
 cases c
 exact ⟨_,_,b2,fy z,K,(aq (Pt o 0) (({wide:=({d with last:=h.2}:ae).wide,epoch:=({d with last:=h.2}:ae).epoch,store:=({d with last:=h.2}:ae).store,locks:=({d with last:=h.2}:ae).locks,last:=({d with last:=h.2}:ae).last,book:=({d with last:=h.2}:ae).book,open_:=f5,out:=({d with last:=h.2}:ae).out,used:=({d with last:=h.2}:ae).used}:ae)) b.aG.aG.ap.aG.aG.aG.aG.aG z).ap.ap.ap.eF⟩
}
}
 {
 intro e2 c
 refine wp_skip (tn ?_)
 cases c
 exact ⟨_,_,b2,fy z,K,(aq (Pt o 0) (({d with last:=h.2}:ae)) b.aG.aG.aG.aG.aY.aG.aG.aG z).ap.ap.ap.eF⟩
}
}
 {
 rintro _ l0 ⟨I473,V,c,⟨l1,rfl⟩,Y,b⟩
 dsimp only [jJ] at c
 replace G:=G.mono (ro_le Y)
 replace H:=H.mono (ro_le Y)
 replace p:=p.trans Y
 refine ww (mf z underlying49 z sizeOf28 (mz (av (cs:=[U6 a2.ID.Session,U6 a2.ID.Seq]) z isAgg28 sizeOf28 (b.eD 1 z)) (mz (av (cs:=[I6 f,U6 a2.Epoch,U6 a1,i,j]) z isAgg33 sizeOf33 (b.pQ 0 z)) (wv (.agg #[U1 4,U6 a2.ID.Session,U6 a2.ID.Seq,I6 f,U6 a2.Epoch,U6 a1,i,j]) z z (by obtain ⟨_,_,hv_,_⟩:=(ag H); rw [hv_]; obtain ⟨_,_,hv_,_⟩:=(ag G); rw [hv_]; kernel_rfl) ?_))))
 replace b:=b.ab
 refine bxk b z sizeOf35 (oJ 6 z (oC (oS (ag G)) (oC (oS (ag H)) oN))) fun l2 b=>nt (wp_ret ?_)
 replace b:=aJ b.ap
 cases c
 exact aU [.agg #[U1 4,U6 a2.ID.Session,U6 a2.ID.Seq,I6 f,U6 a2.Epoch,U6 a1,i,j]] results50 (bj (bF (cs:=[U1 4,U6 a2.ID.Session,U6 a2.ID.Seq,I6 f,U6 a2.Epoch,U6 a1,i,j]) z isAgg35 sizeOf35 (b.eI 0 z)) ah) ⟨_,i,j,z,p,G,H,b.bo⟩
}
}
}
}
}
}
theorem ku {a0:(List bA)} {b:Value} {a1 a2:Int} (a:St w0 w I [aZ aH b a0] R) {r:(List bA)} (d:dn a0 a1 a2=some r) :
  Calls prog 52 #[b,I6 a1,I6 a2] w fun e w'=>∃ (f:Value),e = .returned (f)∧St w0 w' I [aZ aH f r] R:=by {
 unfold dn at d
 obtain ⟨hg,d⟩:=cw d
 cases d
 obtain ⟨g,o,q⟩:=sL hg
 obtain ⟨j,rfl⟩:=Int.eq_ofNat_of_zero_le (Int.le_trans g o)
 obtain ⟨k,rfl⟩:=Int.eq_ofNat_of_zero_le g
 have hkj:k≤j:=by omega
 have hs:∀ w:World,(sizeOf 89).run prog w = .ok aH.sz w:=sizeOf89
 obtain ⟨css,hr,a⟩:=a.cx
 obtain ⟨n,hn⟩:∃ n,css.length=n:=⟨_,rfl⟩
 have hln:a0.length=n:=hr.1.trans hn
 have hjn:j≤n:=by omega
 have hsv:dc b n:=by have:=a.cC.2; rwa [hn] at this
 have hoc:=hr.tc
 refine c0 func52 z ntmps52 (ww (mv ((.slice none 0 0)) z (nt (ww (mv (b) z (mi z (mi z (mv (b) z (mz (bW z underlying65 hsv) (Ep z z (yJ underlying65 hs z hsv z z z hkj hjn) fun s=>nt (wp_seq (ww (mi z (mi z (mb z (nt (iB ((k:Int)==(j:Int)) (fun c=>?_) (fun c=>?_))))))))))))))))))
 {
 refine dq (cvb c) (ww (mv (b) z (mv (b) z (nt (wp_ret (aI (aU [b] results52 (rc z ah) ?_)))))))
 rw [Ad c]
 exact ⟨_,z,(a.ba hr).bo⟩
}
 {
 refine bT (cvb c) ?_
 have hne:¬ ((k:Int)=(j:Int)):=by simpa using c
 have hlt:k<j:=by omega
 refine wp_skip (tn (ww (mv (b) z (mz (bW z underlying65 hsv) (mi z (nt (wp_seq (rg a 8 [0,0,3,0,0,24,63,127] [7] mixed (sz (b) 0 z z (si 1 z z (sh ((dh aH.sz b 0 k)) 2 z (fun w a=>cA (lo:=(0:Nat)) (hi:=(k:Nat)) underlying65 hs z hsv (by omega) (by omega) (by omega) .i64 .i64 (.inr ⟨z,z⟩) (.inl z)) (sz (b) 3 z z (si 4 z z (sh ((dh aH.sz b j n)) 5 z (fun w a=>cA (lo:=(j:Nat)) (hi:=(n:Nat)) underlying65 hs z hsv (by omega) (by omega) (by omega) .i64 .i64 (.inl z) (.inr ⟨z,z⟩)) (e1 6 z z fun w a=>?_)))))))))))))))
 obtain ⟨p,hra,a⟩:=vD (P:=prog) underlying65 hs a hn hlt hjn hoc 65
 refine bS (v:=(dh aH.sz b 0 (k+(n - j)))) (w':=p) z (bU z z hra) ?_
 have hnl:=(show _ from a)
 clear hnl
 have i:(css.take k++(css.drop j++css.drop (k+(n - j)))).length=n:=by simp only [List.length_append,List.length_take,List.length_drop]; omega
 have hsm:=Av a i (m:=(k+(n - j))) (by omega)
 refine w0n a (e1 7 z z fun w a=>bS (v:=(dh aH.sz b 0 (k+(n - j)))) (w':=w) z z (w0n a (bi ?_)))
 intro w a
 refine tn (ww (mv ((dh aH.sz b 0 (k+(n - j)))) z (mv ((dh aH.sz b 0 (k+(n - j)))) z (mz (bW z underlying65 hsm) (mi z (mv ((dh aH.sz b (k+(n - j)) n)) (xf underlying65 hs z hsv z z (by omega) (by omega)) ?_))))))
 obtain ⟨t,hrc,a⟩:=wL sx z (nv (by kernel_rfl)) a i (m:=(k+(n - j))) (by omega) 0
 refine Ag z z (Af z hrc) (nt (ww (mv ((dh aH.sz b 0 (k+(n - j)))) z (mv ((dh aH.sz b 0 (k+(n - j)))) z (nt (wp_ret (aU [(dh aH.sz b 0 (k+(n - j)))] results52 (rc z ah) ?_)))))))
 replace a:=a.gY (l:=0) (h:=(k+(n - j))) (Nat.zero_le _) (by simp only [List.length_append,List.length_take,List.length_drop,List.length_replicate]; omega)
 rw [yH hn hlt hjn (List.length_replicate ..)] at a
 exact ⟨_,z,(a.ba ((hr.take k).app (hr.drop j))).bo⟩
}
}
theorem nN {a0:(Option cB)} {p0:Value} {a1 a2:Int} (b:St w0 w I [cE cL p0 a0] R) {r:(Bool×(Option cB))} (c:eS a0 a1 a2=some r) :
  Calls prog 54 #[p0,U6 a1,U6 a2] w fun e w'=>e = .returned (.bool r.1)∧St w0 w' I [cE cL p0 r.2] R:=by {
 rcases a0 with _ | i
 {
 dsimp only [eS] at c
 cases c
}
 {
 replace b:=bD b
 dsimp only [eS] at c
 refine c0 func54 z ntmps54 (ww (mb z (nt (wp_seq (ww (mv (p0) z ?_))))))
 obtain ⟨g,E,rfl,u⟩:=eE b
 have b:=u
 refine mk (.bool false) (nt (bT z (wp_skip (tn (ww (mb z (nt (wp_seq (ww (mp z (mp z (mf z underlying209 z sizeOf207 (ml z isAgg207 (b.bc0 z) (mz (bW z underlying207 b.sv1) (mi z (nt (wp_block ?_)))))))))))))))))
 replace b:=cY (Pt g 0) i b.ab.ab z
 obtain ⟨v,c⟩:=aS c
 refine bf (fun n a w=>∃ (f:cB) (j:Int) (h:Bool),cP (fl i a1 a2) n (f,j,h)=some r∧fz 52 [0,1,2,7,15,16] [Pt g 0,U6 a1,U6 a2,.bool h,I6 ((i.l).length:Int),I6 j] a∧St w0 w I [cL (Pt g 0) f] R) v ⟨i,0,false,c,fy z,b⟩ ?_
 rintro F _ G ⟨f,j,h,c,⟨H,rfl⟩,b⟩
 obtain ⟨J,K,rfl,c,k⟩:=aV c
 dsimp only [fl] at c
 refine ww (mb z (nt (wp_seq (bw c z ?_ ?_))))
 {
 intro x c
 refine wp_skip (tn (wp_seq (wp_block (ww (mi z (mi z (nt (ww (mp z ?_)))))))))
 obtain ⟨L,M,m,A⟩:=eE b
 replace m:=dF m
 subst m
 have b:=A
 refine mp z (mf z underlying209 z sizeOf207 (ml z isAgg207 (b.bc0 z) (mi z ?_)))
 obtain ⟨s,B,c⟩:=bn c
 obtain ⟨o,p,q⟩:=aK B
 refine mz (az z z underlying207 sizeOf224 b.sv1 o p) (mz (aR z underlying224 z sizeOf39 z) (mz (aR z underlying39 z sizeOf26 z) (ml z isAgg26 (b.ol1 q (by rintro _ rfl; rfl)) (mi z (mb z (mb z (bs c ?_ ?_)))))))
 {
 intro d c
 refine gp d z (gp d z (gg d (aO z underlying209 z sizeOf207 z) (gg d (ao z isAgg207 (b.bc0 z)) (gi d z (gg d (az z z underlying207 sizeOf224 b.sv1 o p) (gg d (aR z underlying224 z sizeOf26 z) (gg d (ao z isAgg26 (b.ol1 q (by rintro _ rfl; rfl))) (gb d z (mb (aM d z z) (nt (bw c z ?_ ?_)))))))))))
 {
 intro C c
 refine wrl (mp z (mp z (mf z underlying209 z sizeOf207 (ml z isAgg207 (b.bc0 z) (mi z (mi z (mk (.int .u64 (if 1>a2 then 1 else a2)) (mz (az z z underlying207 sizeOf224 b.sv1 o p) (mz (aR z underlying224 z sizeOf26 z) ?_)))))))))
 replace b:=b.ab
 obtain ⟨N,D,b⟩:=b.nW (P:=prog) (t:=26) (y:=({s with to_:=(if 1>a2 then 1 else a2)}:df)) q 8 (.int .u64 (if 1>a2 then 1 else a2)) sizeOf26 (Nat.le_of_ble_eq_true z) (oC z oN) (by rintro _ rfl; rfl)
 refine ub z z (oa D) (mb z (dk (bB (tn (wrl (mi z (mi z (nt ?_))))))))
 cases c
 exact ⟨_,nls,_,_,true,k,fy z,(cY (Pt g 0) (({l:=(f.l.set j.toNat ({s with to_:=(if 1>a2 then 1 else a2)}:df))}:cB)) b.ab z).bo⟩
}
 {
 intro C c
 refine wp_skip (bB (tn (wrl (mi z (mi z (nt ?_))))))
 cases c
 exact ⟨_,nls,f,_,h,k,fy z,(cY (Pt g 0) f b.ab.ab z).bo⟩
}
}
 {
 intro d c
 refine go d (go d (go d (go d (go d (go d (go d (go d (go d (mb (aE d z z) (nt (bT z (wp_skip (bB (tn (wrl (mi z (mi z (nt ?_))))))))))))))))))
 cases c
 exact ⟨_,nls,f,_,h,k,fy z,(cY (Pt g 0) f b.ab.ab z).bo⟩
}
}
 {
 intro x c
 refine wp_exit (aQ (aQ ?_))
 replace c:=bg c k
 refine cZ (tn (ww (mb z (mb z (nt (wp_ret ?_))))))
 cases c
 exact aU [.bool h] results54 (rc z ah) ⟨z,(aJ b).bo⟩
}
}
}
theorem rq {a0:(Option cB)} {p0:Value} {a1:dr} {a2:Int} (a:St w0 w I [cE cL p0 a0] R) {r:((Option cB))} (b:fW a0 a1 a2=some r) :
  Calls prog 53 #[p0,.agg #[U6 a1.ID,I6 a1.From,I6 a1.To,F6 a1.Lo,F6 a1.Hi,U6 a1.Authority,I6 a1.Quota],U6 a2] w fun e w'=>e = .returned (.tuple #[])∧St w0 w' I [cE cL p0 r] R:=by {
 rcases a0 with _ | h
 {
 dsimp only [fW] at b
 cases b
}
 {
 replace a:=bD a
 dsimp only [fW] at b
 refine c0 func53 z ntmps53 (ww ?_)
 obtain ⟨B,C,i,j,a⟩:=a.box [U6 a1.ID,I6 a1.From,I6 a1.To,F6 a1.Lo,F6 a1.Hi,U6 a1.Authority,I6 a1.Quota] 39
 refine wa i j (nt (wp_seq (ww (mv (p0) z ?_))))
 obtain ⟨c,D,rfl,k⟩:=eE a.ab
 have a:=k
 refine mk (.bool false) (nt (bT z (wp_skip (tn (ww (mp z (mf z underlying39 z sizeOf26 (ml z isAgg26 (a.bc2 z) (mi z ?_)))))))))
 replace a:=aJ (cY (Pt c 0) h a.ab.ab z)
 obtain ⟨m,n,b⟩:=bn b
 refine wc call54 [Pt c 0,U6 a1.ID,U6 a2] z z z (kca (nN a.to1 n) fun F a=>?_)
 replace a:=a.of1
 rcases f:m.2 with _ | o
 · rw [f] at b; cases b
 rw [f] at b a; dsimp only at b; replace a:=bD a
 refine nt ?_
 obtain ⟨G,H,d,p⟩:=eE a
 replace d:=dF d
 subst d
 have a:=p
 refine rg a 13 [0,0,2,6,14,0,0,96,224,510,1023,2047,4095] [] mixed (sp 0 z z (sp 1 z z (sp 2 z z (sf 3 z z underlying209 z sizeOf207 (sl 4 z z isAgg207 (fun w a=>a.bc0 z) (sh _ 5 z (fun w a=>av (cs:=[U6 a1.ID,I6 a1.From,I6 a1.To,F6 a1.Lo,F6 a1.Hi,U6 a1.Authority,I6 a1.Quota]) z isAgg39 sizeOf39 (a.pQ 0 z)) (si 6 z z (sk (.agg #[U6 a1.ID,I6 a1.From,I6 a1.To,F6 a1.Lo,F6 a1.Hi,U6 a1.Authority,I6 a1.Quota,U6 a2,Zu]) 7 z (e1 8 z z fun w a=>?_)))))))))
 obtain ⟨q,s,t,u,a⟩:=a.er (E:=jb) (xs:=[({r:=a1,from_:=a2,to_:=0}:df)]) [[U6 a1.ID,I6 a1.From,I6 a1.To,F6 a1.Lo,F6 a1.Hi,U6 a1.Authority,I6 a1.Quota,U6 a2,Zu]] 224 1 z (bz.cons z bz.nil)
 refine bS (v:=(.slice (some ⟨q,0,none⟩) 1 1)) (w':=s) z (di (by kernel_rfl) t u) (wn [4,3,2,1,0] a (pkr z z (fun w a=>ao z isAgg207 (a.bc1 z)) (pf z z underlying209 z sizeOf207 (pz (pz (pz bu))))) (e1 9 z z fun w a=>?_))
 obtain ⟨x,b⟩:=cw b
 replace a:=a.ay
 obtain ⟨g,y,A,a⟩:=bE Dn underlying207 a a.jr (cF x z) 207
 refine bS (v:=g) (w':=y) z (bU z z A) (wn [0] a (pz bu) (sp 10 z z (sf 11 z z underlying209 z sizeOf207 (e1 12 z z fun w a=>?_))))
 replace a:=a.ay
 refine b1e g a z (oS a.sv1) sizeOf207 fun J a=>w0n a (bi ?_)
 intro w a
 replace a:=aJ (cY (Pt c 0) (({l:=(o.l++([({r:=a1,from_:=a2,to_:=0}:df)]))}:cB)) a.ab.ab z)
 cases b
 exact vn (vs:=[]) results53 ah ⟨z,a.bo⟩
}
}
theorem nS {a0:ct} {a1:Int} (a:St w0 w I [] R) {r:(Int)} (b:ik a0 a1=some r) :
  Calls prog 133 #[.agg #[U6 a0.kj,U6 a0.epoch,I6 a0.n],U6 a1] w fun e w'=>e = .returned (.int .i64 r)∧St w0 w' I [] R:=by {
 unfold ik at b
 refine c0 func133 z ntmps133 (ww ?_)
 obtain ⟨h,i,c,d,a⟩:=a.box [U6 a0.kj,U6 a0.epoch,I6 a0.n] 189
 refine wa c d (mi z (nt (ww (mf z underlying189 z sizeOf26 (ml z isAgg26 (a.bc0 z) (mi z ?_))))))
 obtain ⟨f,g,b⟩:=bn b
 refine wc call131 [U6 a0.kj,U6 a1] z z z (kca (eX a.to0 g) fun j a=>?_)
 replace a:=a.of0
 refine mi z (nt (wp_ret ?_))
 obtain rfl:=sj b
 exact aU [I6 f] results133 (rc z ah) ⟨z,a.bQ⟩
}
theorem ma {a0:(List ct)} {d:Value} {a1:Int} {a2:(List ct)} {g:Value} (c:St w0 w I [aZ cH d a0,aZ cH g a2] R) {r:(List ct)} (q:dJ a0 a1 a2=some r) :
  Calls prog 134 #[d,I6 a1,g] w fun e w'=>∃ (x:Value),e = .returned (x)∧St w0 w' I [aZ cH x r] R:=by {
 unfold dJ at q
 obtain ⟨hg,q⟩:=cw q
 cases q
 obtain ⟨A,S,hrm⟩:=qs hg
 obtain ⟨k,rfl⟩:=Int.eq_ofNat_of_zero_le A
 have hsm:=qG hrm
 have hk:k≤a0.length:=by omega
 have hs:∀ w:World,(sizeOf 189).run prog w = .ok cH.sz w:=sizeOf189
 have y:0<cH.sz:=Nat.le_of_ble_eq_true rfl
 have hov:∀ (args:Array Value) (w:World),(callFunc 191 args).run prog w=(Extern.SlicesOverlaps.overlaps #[109,109] #[4] args >>= fun v=>(pure (.value v):Sem Next)).run prog w:=by intro args w; kernel_rfl
 obtain ⟨css,hr,c⟩:=c.cx
 replace c:=c.ab
 obtain ⟨dss,hq,c⟩:=c.cx
 replace c:=c.ab
 obtain ⟨n,hn⟩:∃ n,css.length=n:=⟨_,rfl⟩
 obtain ⟨m,hm'⟩:∃ m,dss.length=m:=⟨_,rfl⟩
 have hln:a0.length=n:=hr.1.trans hn
 have hlm:a2.length=m:=hq.1.trans hm'
 rw [hln] at hsm hk
 rw [hlm] at hsm
 have hsv:dc d n:=by have:=c.cC.2; rwa [hn] at this
 have hsq:dc g m:=by have:=c.ab.cC.2; rwa [hm'] at this
 have hoc:=hr.tc
 have hoq:=hq.tc
 have s:=wrap_add (a:=n) (b:=m) (by omega)
 have t:=wrap_add (a:=k) (b:=m) (by omega)
 have B:=pE (a:=n+m) (b:=k) (by omega) (by omega)
 have hrb:=cF (b:=24) hrm rfl
 rw [hln,hlm] at hrb
 refine c0 func134 z ntmps134 (ww (mv ((.slice none 0 0)) z (nt (ww (mv (d) z (mi z (mv ((dh cH.sz d k n)) (cA (lo:=(k:Nat)) (hi:=(n:Nat)) underlying109 hs z hsv (by omega) (by omega) (by omega) .i64 .i64 (.inl z) (.inr ⟨z,z⟩)) (nt (ww (mv (g) z (mz (bW z underlying109 hsq) (mi z (nt (wp_seq (ww (mi z (mb z (nt (iB ((m:Int)==0) (fun j=>?_) (fun j=>?_))))))))))))))))))))
 {
 refine dq (cvb j) (ww (mv (d) z (mv (d) z (nt (wp_ret (aI (aU [d] results134 (rc z ah) ?_)))))))
 rw [sG (by rw [hlm]; exact j)]
 exact ⟨_,z,(c.ba hr).bo⟩
}
 {
 refine bT (cvb j) ?_
 have C:m≠0:=fun h=>by rw [h] at j; cases j
 have D:dss≠[]:=fun h=>C (by rw [← hm',h]; rfl)
 refine wp_skip (tn (ww (mv (d) z (mz (bW z underlying109 hsv) (mi z (nt (wp_seq (ww (mi z (mi z (mb z (nt (iB ((k:Int)==(n:Int)) (fun o=>?_) (fun o=>?_))))))))))))))
 {
 refine dq (cvb o) (ww (mv (d) z (mv (g) z ?_)))
 replace c:=((c.ba hr).ab.ba hq).ab
 obtain ⟨f,u,hra,c⟩:=bE yR underlying109 c c.jr (cF hrm z) 109
 refine bY (v:=f) (w':=u) z z (bU z z hra) (mv (f) z (nt (wp_ret (aI (aU [f] results134 (rc z ah) ?_)))))
 rw [sA (by rw [hln]; exact o)]
 exact ⟨_,z,c.bo⟩
}
 {
 refine bT (cvb o) ?_
 have hkn:k≠n:=fun h=>by rw [h] at o; simp at o
 have E:0<n:=by omega
 have F:css≠[]:=fun h=>by rw [h] at hn; simp at hn; omega
 refine wp_skip (tn (wp_seq (ww (mi z (mi z (mi (dv s z) (mv (d) z (mi (wS z underlying109 hsv) (mb z (nt (iB (decide (((n+m:Nat):Int)>(qM d:Int))) (fun p=>?_) (fun p=>?_))))))))))))
 {
 refine dq (cvb p) (ww (mv (d) z (mi z (mv ((dh cH.sz d 0 k)) (cA (lo:=(0:Nat)) (hi:=(k:Nat)) underlying109 hs z hsv (by omega) (by omega) (by omega) .i64 .i64 (.inr ⟨z,z⟩) (.inl z)) (mi z (mi z (mi (dv s z) (mi z (mi (dv B z) ?_)))))))))
 obtain ⟨f,u,hra,i,zss,hzl,c⟩:=qv yR underlying3 c k (n+m - k) (by omega) (by have:=of_decide_eq_true p; omega) (by rw [show k+(n+m - k)=n+m by omega]; exact hrb) y 109
 rw [show k+(n+m - k)=n+m by omega] at i
 refine bY (v:=f) (w':=u) z z (bU z z hra) (mv (f) z (nt (ww (mv (f) z (mi z (mv ((dh cH.sz f k (n+m))) (cA (lo:=(k:Nat)) (hi:=((n+m):Nat)) underlying109 hs z i (by omega) (by omega) (by omega) .i64 .i64 (.inl z) (.inr ⟨z,z⟩)) (mv (g) z ?_)))))))
 obtain ⟨G,H,c⟩:=dg (P:=prog) (t2:=109) (ty:=3) underlying109 hs c c.ay k m (N:=n+m) (by first | omega | (simp only [List.length_append,List.length_take,List.length_drop]; omega)) (by first | omega | (simp only [List.length_append,List.length_take,List.length_drop]; omega)) (by omega) (by first | omega | (simp only [List.length_append,List.length_take,List.length_drop]; omega)) (dT hoq _)
 refine bY (v:=.int .i64 (m:Nat)) (w':=G) z z (iD z z H) (nt (wp_seq (rg c 9 [0,0,0,6,15,0,0,96,255] [] mixed (sz (f) 0 z z (si 1 z z (si 2 z z (sh (I6 _) 3 z (fun w c=>dv t z) (sh ((dh cH.sz f (k+m) (n+m))) 4 z (fun w c=>cA (lo:=((k+m):Nat)) (hi:=((n+m):Nat)) underlying109 hs z i (by omega) (by omega) (by omega) .i64 .i64 (.inl z) (.inr ⟨z,z⟩)) (sz (d) 5 z z (si 6 z z (sh ((dh cH.sz d k n)) 7 z (fun w c=>cA (lo:=(k:Nat)) (hi:=(n:Nat)) underlying109 hs z hsv (by omega) (by omega) (by omega) .i64 .i64 (.inl z) (.inr ⟨z,z⟩)) (e1 8 z z fun w c=>?_))))))))))))
 obtain ⟨J,K,c⟩:=dg (P:=prog) (t2:=109) (ty:=3) underlying109 hs c (c.ab.gY (l:=k) (h:=n) hk (by omega)) (k+m) (n - k) (N:=n+m) (by first | omega | (simp only [List.length_append,List.length_take,List.length_drop]; omega)) (by first | omega | (simp only [List.length_append,List.length_take,List.length_drop]; omega)) (by omega) (by first | omega | (simp only [List.length_append,List.length_take,List.length_drop]; omega)) (dT (iO (dT hoc _) _) _)
 refine bS (v:=.int .i64 ((n - k):Nat)) (w':=J) z (iD z z K) (w0n c (bi ?_))
 intro w c
 refine tn (ww (mv (f) z (mv (f) z (nt (wp_ret (aI (aU [f] results134 (rc z ah) ?_)))))))
 rw [pj hn hm' hk hzl] at c
 exact ⟨_,z,(c.ba ((hr.take k).app (hq.app (hr.drop k)))).bo⟩
}
 {
 refine bT (cvb p) ?_
 have hup:n+m≤qM d:=by have:=of_decide_eq_false p; omega
 obtain ⟨ess,hel,hem,hst'⟩:=c.uf (n+m) (by omega) hup F
 rw [show n+m - css.length=m by omega] at hel
 have i:dc (upV d (n+m)) (n+m):=by have:=hst'.cC.2; rwa [List.length_append,hn,hel] at this
 clear c
 have c:=hst'
 clear hst'
 refine wp_skip (tn (ww (mv (d) z (mi z (mi z (mi (dv s z) (mv ((upV d (n+m))) (pu underlying109 hs z hsv z hup E) (mv ((upV d (n+m))) z (nt (wp_seq (ww (mv (g) z (mv ((upV d (n+m))) z (mi z (mi z (mi (dv t z) (mv ((dh cH.sz (upV d (n+m)) (k+m) (n+m))) (cA (lo:=((k+m):Nat)) (hi:=((n+m):Nat)) underlying109 hs z i (by omega) (by omega) (by omega) .i64 .i64 (.inl z) (.inr ⟨z,z⟩)) (mb (wT z z z (hov _) (lY z underlying109 hs c.ab (k+m) (N:=n+m) (by rw [List.length_append]; omega) (by omega) D y)) (mb z (nt (dq z (wp_seq (rg c 9 [0,0,0,6,15,0,0,96,255] [] mixed (sz ((upV d (n+m))) 0 z z (si 1 z z (si 2 z z (sh (I6 _) 3 z (fun w c=>dv t z) (sh ((dh cH.sz (upV d (n+m)) (k+m) (n+m))) 4 z (fun w c=>cA (lo:=((k+m):Nat)) (hi:=((n+m):Nat)) underlying109 hs z i (by omega) (by omega) (by omega) .i64 .i64 (.inl z) (.inr ⟨z,z⟩)) (sz ((upV d (n+m))) 5 z z (si 6 z z (sh ((dh cH.sz (upV d (n+m)) k (n+m))) 7 z (fun w c=>cA (lo:=(k:Nat)) (hi:=((n+m):Nat)) underlying109 hs z i (by omega) (by omega) (by omega) .i64 .i64 (.inl z) (.inr ⟨z,z⟩)) (e1 8 z z fun w c=>?_))))))))))))))))))))))))))))))))
 obtain ⟨L,M,c⟩:=dg (P:=prog) (t2:=109) (ty:=3) underlying109 hs c (c.gY (l:=k) (h:=n+m) (by omega) (by rw [List.length_append]; omega)) (k+m) (n - k) (N:=n+m) (by first | omega | (simp only [List.length_append,List.length_take,List.length_drop]; omega)) (by first | omega | (simp only [List.length_append,List.length_take,List.length_drop]; omega)) (by omega) (by first | omega | (simp only [List.length_append,List.length_take,List.length_drop]; omega)) (by rw [qH hn hm' hk hel]; exact iO hoc _)
 refine bS (v:=.int .i64 ((n - k):Nat)) (w':=L) z (iD z z M) (w0n c (bi ?_))
 intro w c
 refine tn (ww (mv ((upV d (n+m))) z (mi z (mv ((dh cH.sz (upV d (n+m)) k (n+m))) (cA (lo:=(k:Nat)) (hi:=((n+m):Nat)) underlying109 hs z i (by omega) (by omega) (by omega) .i64 .i64 (.inl z) (.inr ⟨z,z⟩)) (mv (g) z ?_)))))
 obtain ⟨O,Q,c⟩:=dg (P:=prog) (t2:=109) (ty:=3) underlying109 hs c c.ab k m (N:=n+m) (by first | omega | (simp only [List.length_append,List.length_take,List.length_drop]; omega)) (by first | omega | (simp only [List.length_append,List.length_take,List.length_drop]; omega)) (by omega) (by first | omega | (simp only [List.length_append,List.length_take,List.length_drop]; omega)) (dT hoq _)
 refine bY (v:=.int .i64 (m:Nat)) (w':=O) z z (iD z z Q) (nt (ww (mv ((upV d (n+m))) z (mv ((upV d (n+m))) z (nt (wp_ret (aI (aU [(upV d (n+m))] results134 (rc z ah) ?_))))))))
 rw [pt hn hm' hk hel] at c
 exact ⟨_,z,(c.ba ((hr.take k).app (hq.app (hr.drop k)))).bo⟩
}
}
}
}
theorem xE {a0:bN} {f:Value} {a1:Int} (n:Rd (cg .u8) R I f a0.Val) (b:St w0 w I [] R) {r:(bN)} (c:se a0 a1=some r) :
  Calls prog 17 #[.agg #[F6 a0.At,.bool a0.Del,f],I6 a1] w fun e w'=>∃ (i:Value),e = .returned (.agg #[F6 r.At,.bool r.Del,i])∧St w0 w' I [aZ (cg .u8) i r.Val] R:=by {
 unfold se at c
 refine c0 func17 z ntmps17 (ww ?_)
 obtain ⟨j,C,o,p,b⟩:=b.box [F6 a0.At,.bool a0.Del,f] 41
 refine wa o p ?_
 obtain ⟨l,D,q,s,b⟩:=b.box [Zf,.bool false,Zs] 41
 refine wa q s (nt (ww (mi z (mk (.int .i64 (if 0>a1 then 0 else a1)) ?_))))
 obtain ⟨t,c⟩:=cw c
 obtain ⟨g,u,x,b⟩:=run_mk (k:=.i64) (k':=.i64) (zm:=0) uZ b t (by decide) z
 refine bY (v:=g) (w':=u) z z (Fm z z x) (mv (g) z (nt (ww (mv (g) z (mf z underlying41 z sizeOf22 (ml z isAgg22 (b.bc2 z) ?_))))))
 obtain ⟨y,A,b⟩:=yf (P:=prog) (t2:=22) (ty:=3) underlying22 sizeOf5 b (Src.rm b n mO)
 refine bY (v:=.int .i64 ((min (a0.Val).length ((List.replicate (Int.toNat (if 0>a1 then 0 else a1)) 0)).length:Nat):Int)) (w':=y) z z (iD z z A) (nt ?_)
 obtain ⟨E,c,m⟩:=bn c
 refine cQ (fun a w=>∃ (h:(List Int)) (d:Value),(pS a0) h=some r∧fz 21 [2,4,5] [Pt j 0,Pt l 0,d] a∧St w0 w I [cells j [F6 a0.At,.bool a0.Del,f],cells l [Zf,.bool false,Zs],aZ (cg .u8) d h] R) ?_ ?_
 {
 refine ww (mf z underlying41 z sizeOf4 (ml z isAgg4 (b.bc2 z) (nt (bw c z ?_ ?_))))
 {
 intro B c
 refine wrl (mv ((.slice none 0 0)) z (nt ?_))
 cases c
 exact ⟨([]),Zs,m,fy z,(b.aX (cg .u8)).ay.ap.dC⟩
}
 {
 intro B c
 refine wp_skip (tn ?_)
 cases c
 exact ⟨(cpy (List.replicate (Int.toNat (if 0>a1 then 0 else a1)) 0) a0.Val),g,m,fy z,b.ab.ay.dC⟩
}
}
 {
 rintro _ F ⟨h,d,c,⟨G,rfl⟩,b⟩
 dsimp only [pS] at c
 refine ww (mf z underlying41 z sizeOf37 (ml z isAgg37 (b.bc0 z) (mf z underlying41 z sizeOf4 (ml z isAgg4 (b.bc0 z) (mv (d) z (wv (.agg #[F6 a0.At,.bool a0.Del,d]) z z (by obtain ⟨_,_,hv_,_⟩:=b.sv2; rw [hv_]; kernel_rfl) ?_))))))
 replace b:=b.ab
 refine bxk b z sizeOf41 (oJ 2 z (oC (oS b.sv2) oN)) fun H b=>nt (wp_ret ?_)
 cases c
 exact aU [.agg #[F6 a0.At,.bool a0.Del,d]] results17 (bj (bF (cs:=[F6 a0.At,.bool a0.Del,d]) z isAgg41 sizeOf41 (b.eD 0 z)) ah) ⟨d,z,b.ay.bo⟩
}
}
theorem sP {a0:(Option ae)} {p0:Value} {a1:Int} {a2:aC} {x A B C D F G H:Value} (q7:Rd bV R I x a2.Hold.Gets) (q8:Rd gn R I A a2.Hold.Scans) (q9:Rd bV R I B a2.Hold.Puts) (s0:Rd (cg .u8) R I C a2.Hold.Data) (c2:Rd cG R I D a2.Writes) (s1:Rd aA R I F a2.R.Gots) (s2:Rd (dG aw) R I G a2.R.Scans) (s3:Rd cJ R I H a2.Parts) (b:St w0 w I [cE aD p0 a0] R) {r:(bh×(Option ae))} (c:iz a0 a1 a2=some r) :
  Calls prog 55 #[p0,U6 a1,.agg #[U1 a2.Kind,U6 a2.ID.Session,U6 a2.ID.Seq,U6 a2.Epoch,U6 a2.Index,I6 a2.E,U6 a2.Hold.ID.Session,U6 a2.Hold.ID.Seq,U6 a2.Hold.Epoch,x,A,B,C,D,I6 a2.R.E,U6 a2.R.Epoch,U6 a2.R.Index,F,G,U6 a2.Shards,H,U6 a2.Rule.ID,I6 a2.Rule.From,I6 a2.Rule.To,F6 a2.Rule.Lo,F6 a2.Rule.Hi,U6 a2.Rule.Authority,I6 a2.Rule.Quota,.bool a2.On]] w fun e w'=>∃ (I':HL) (e9:Value) (f0:Value),e = .returned (.agg #[U1 r.1.Kind,U6 r.1.ID.Session,U6 r.1.ID.Seq,I6 r.1.R.E,U6 r.1.R.Epoch,U6 r.1.R.Index,e9,f0])∧I.le I'∧Ro aA I' e9 r.1.R.Gots∧Ro (dG aw) I' f0 r.1.R.Scans∧St w0 w' I' [cE aD p0 r.2] R:=by {
 rcases a0 with _ | d
 {
 dsimp only [iz] at c
 cases c
}
 {
 replace b:=bD b
 dsimp only [iz] at c
 refine c0 func55 z ntmps55 ?_
 have M:=HL.le.refl I
 refine ww ?_
 obtain ⟨p,s4,h0,h1,b⟩:=b.box [U1 a2.Kind,U6 a2.ID.Session,U6 a2.ID.Seq,U6 a2.Epoch,U6 a2.Index,I6 a2.E,U6 a2.Hold.ID.Session,U6 a2.Hold.ID.Seq,U6 a2.Hold.Epoch,x,A,B,C,D,I6 a2.R.E,U6 a2.R.Epoch,U6 a2.R.Index,F,G,U6 a2.Shards,H,U6 a2.Rule.ID,I6 a2.Rule.From,I6 a2.Rule.To,F6 a2.Rule.Lo,F6 a2.Rule.Hi,U6 a2.Rule.Authority,I6 a2.Rule.Quota,.bool a2.On] 49
 refine wa h0 h1 ?_
 obtain ⟨q,s5,h2,h3,b⟩:=b.box [Zb,Zu,Zu,Zi,Zu,Zu,Zs,Zs] 35
 refine wa h2 h3 (nt (ww (mf z underlying49 z sizeOf33 (mf z underlying33 z sizeOf29 (ml z isAgg29 (b.bc1 z) (mf z underlying49 z sizeOf26 (ml z isAgg26 (b.bc1 z) (mi z (mk (.agg #[I6 a2.R.E,U6 a2.Epoch,U6 a1,Zs,Zs]) ?_)))))))))
 obtain ⟨s,s6,h4,h5,b⟩:=b.box [Zi,Zu,Zu,Zs,Zs] 33
 refine wa h4 h5 (bxk b z sizeOf33 (oJ 5 z oN) fun s7 b=>nt (wp_seq ?_))
 obtain ⟨f,U,V,X,Y,Z,b0,u,rfl,h6⟩:=bc b.ap
 have b:=h6
 refine rg b 13 [0,1,3,7,0,16,48,127,255,511,511,1023,4095] [] mixed (sp 0 z z (sp 1 z z (sf 2 z z underlying111 z sizeOf109 (sl 3 z z isAgg109 (fun w b=>b.bc0 z) (sf 4 z z underlying49 z sizeOf39 (sf 5 z z underlying39 z sizeOf26 (sl 6 z z isAgg26 (fun w b=>b.uz z) (e1 7 z z fun w b=>?_))))))))
 obtain ⟨f1,h7,c⟩:=bn c
 refine ox z (dE call132 (caps:=[]) z (vs:=[u,U6 a2.Rule.ID,.func (.func 133) #[] #[]]) z) (Calls.mono (show Calls prog 132 #[u,U6 a2.Rule.ID,.func (.func 133) #[] #[]] _ (fun e w'=>∃ (k:Int) (O:Bool),(k,O)=f1∧e = .returned (.tuple #[I6 k,.bool O])∧St w0 w' I [cells f [I6 d.wide,U6 d.epoch,U,V,X,Y,Z,b0,u],cE cI U d.store,cE bP V d.locks,cE ca X d.last,cE cL Y d.book,aZ aH Z d.open_,aZ cb b0 d.out,aZ cH u d.used,cells p [U1 a2.Kind,U6 a2.ID.Session,U6 a2.ID.Seq,U6 a2.Epoch,U6 a2.Index,I6 a2.E,U6 a2.Hold.ID.Session,U6 a2.Hold.ID.Seq,U6 a2.Hold.Epoch,x,A,B,C,D,I6 a2.R.E,U6 a2.R.Epoch,U6 a2.R.Index,F,G,U6 a2.Shards,H,U6 a2.Rule.ID,I6 a2.Rule.From,I6 a2.Rule.To,F6 a2.Rule.Lo,F6 a2.Rule.Hi,U6 a2.Rule.Authority,I6 a2.Rule.Quota,.bool a2.On],cells q [Zb,Zu,Zu,Zi,Zu,Zu,Zs,Zs],cells s [I6 a2.R.E,U6 a2.Epoch,U6 a1,Zs,Zs]] R) from ?_) ?_)
 {
 clear c; have c:=h7
 refine c0 func132 z ntmps132 (ww (mi z (mb z (nt (ww (mv (u) z (mz (bW z underlying109 b.sv7) (mi z (nt (ww (mi z (mi z (mi z (nt ?_))))))))))))))
 obtain ⟨h8,c,h9⟩:=bn c
 refine cQ (fun a w=>∃ (S:Int),(iY d a2) S=some f1∧fz 49 [0,1,2,8,9] [u,U6 a2.Rule.ID,.func (.func 133) #[] #[],I6 ((d.used).length:Int),I6 S] a∧St w0 w I [aZ cH u d.used,cells f [I6 d.wide,U6 d.epoch,U,V,X,Y,Z,b0,u],cE cI U d.store,cE bP V d.locks,cE ca X d.last,cE cL Y d.book,aZ aH Z d.open_,aZ cb b0 d.out,cells p [U1 a2.Kind,U6 a2.ID.Session,U6 a2.ID.Seq,U6 a2.Epoch,U6 a2.Index,I6 a2.E,U6 a2.Hold.ID.Session,U6 a2.Hold.ID.Seq,U6 a2.Hold.Epoch,x,A,B,C,D,I6 a2.R.E,U6 a2.R.Epoch,U6 a2.R.Index,F,G,U6 a2.Shards,H,U6 a2.Rule.ID,I6 a2.Rule.From,I6 a2.Rule.To,F6 a2.Rule.Lo,F6 a2.Rule.Hi,U6 a2.Rule.Authority,I6 a2.Rule.Quota,.bool a2.On],cells q [Zb,Zu,Zu,Zi,Zu,Zu,Zs,Zs],cells s [I6 a2.R.E,U6 a2.Epoch,U6 a1,Zs,Zs]] R) ?_ ?_
 {
 refine wp_block ?_
 obtain ⟨i0,c⟩:=aS c
 refine bf (fun n a w=>∃ (b1:Int) (T:Int),cP (fF d a2) n (b1,T)=some h8∧fz 49 [0,1,2,8,9,10] [u,U6 a2.Rule.ID,.func (.func 133) #[] #[],I6 ((d.used).length:Int),I6 T,I6 b1] a∧St w0 w I [cells f [I6 d.wide,U6 d.epoch,U,V,X,Y,Z,b0,u],cE cI U d.store,cE bP V d.locks,cE ca X d.last,cE cL Y d.book,aZ aH Z d.open_,aZ cb b0 d.out,aZ cH u d.used,cells s [I6 a2.R.E,U6 a2.Epoch,U6 a1,Zs,Zs],cells q [Zb,Zu,Zu,Zi,Zu,Zu,Zs,Zs],cells p [U1 a2.Kind,U6 a2.ID.Session,U6 a2.ID.Seq,U6 a2.Epoch,U6 a2.Index,I6 a2.E,U6 a2.Hold.ID.Session,U6 a2.Hold.ID.Seq,U6 a2.Hold.Epoch,x,A,B,C,D,I6 a2.R.E,U6 a2.R.Epoch,U6 a2.R.Index,F,G,U6 a2.Shards,H,U6 a2.Rule.ID,I6 a2.Rule.From,I6 a2.Rule.To,F6 a2.Rule.Lo,F6 a2.Rule.Hi,U6 a2.Rule.Authority,I6 a2.Rule.Quota,.bool a2.On]] R) i0 ⟨((d.used).length:Int),0,c,fy z,b⟩ ?_
 rintro s8 _ s9 ⟨b1,T,c,⟨t0,rfl⟩,b⟩
 obtain ⟨t1,t2,rfl,c,d1⟩:=aV c
 dsimp only [fF] at c
 refine wp_seq (ww (mi z (mi z (mb z (nt (bw c z ?_ ?_))))))
 {
 intro i1 c
 refine wp_skip (tn (wp_block (ww (mi z (mi z (mi z (mk (.int .u64 (u64.wrap (i64.wrap (T+b1)))) (mi (tP (by decide) z z) (mk (.int .i64 (i64.wrap (iI .u64 (u64.wrap (i64.wrap (T+b1))) 1))) (mi z (nt (ww (mv (.func (.func 133) #[] #[]) z (mv (u) z (mi z ?_)))))))))))))))
 obtain ⟨b2,i2,c⟩:=bn c
 obtain ⟨i3,i4,i5⟩:=aK i2
 refine mz (az z z underlying109 sizeOf189 b.sv7 i3 i4) (mz (av (cs:=[U6 b2.kj,U6 b2.epoch,I6 b2.n]) z isAgg189 sizeOf189 (b.FI i5 0 (by rintro _ rfl; rfl))) (mi z ?_))
 obtain ⟨t3,i6,c⟩:=bn c
 refine de z z (dE call133 (caps:=[]) z (vs:=[.agg #[U6 b2.kj,U6 b2.epoch,I6 b2.n],U6 a2.Rule.ID]) z) (kca (nS b.to0 i6) fun t4 b=>?_)
 replace b:=b.of0
 refine mb z (nt (bw c z ?_ ?_))
 {
 intro i7 c
 refine wrl (mi z (mi z (mi z (dk (bB (tn ?_))))))
 cases c
 exact ⟨_,nls,b1,_,d1,fy z,b.bq.bq.bq.bq.bq.bq.bq.bq.bq.bq.bq.vi⟩
}
 {
 intro i7 c
 refine wrl (mi z (mi z (dk (bB (tn ?_)))))
 cases c
 exact ⟨_,nls,_,T,d1,fy z,b.bq.bq.bq.bq.bq.bq.bq.bq.bq.bq.bq.vi⟩
}
}
 {
 intro i1 c
 refine wp_exit (aQ (aQ ?_))
 replace c:=bg c d1
 refine cZ (tn ?_)
 obtain rfl:=sj c
 exact ⟨T,h9,fy z,b.bH.bO.bq.bO.bO.bO.bO.bO.bO.bO.bq.vi⟩
}
}
 {
 rintro _ t5 ⟨S,c,⟨t6,rfl⟩,b⟩
 dsimp only [iY] at c
 refine ww (mi z (mi z (mi z (mb z (mb z (bs c ?_ ?_))))))
 {
 intro j c
 refine gv (.func (.func 133) #[] #[]) j z (gv (u) j z (gi j z ?_))
 obtain ⟨b3,i8,c⟩:=bn c
 obtain ⟨i9,j0,j1⟩:=aK i8
 refine gg j (az z z underlying109 sizeOf189 b.sv0 i9 j0) (gg j (av (cs:=[U6 b3.kj,U6 b3.epoch,I6 b3.n]) z isAgg189 sizeOf189 (b.FN j1 0 (by rintro _ rfl; rfl))) (gi j z ?_))
 obtain ⟨f2,j2,c⟩:=bn c
 refine de ((ar z z z (cvb j)).trans z) z (dE call133 (caps:=[]) z (vs:=[.agg #[U6 b3.kj,U6 b3.epoch,I6 b3.n],U6 a2.Rule.ID]) z) (kca (nS b.to0 j2) fun t7 b=>?_)
 replace b:=b.of0
 refine gb j z (mb (aM j z z) (mi z (mb z (nt (wp_ret (aU [I6 S,.bool (f2==0)] results132 (rc z (rc z ah)) ?_))))))
 cases c
 exact ⟨S,(f2==0),z,z,b.bq.bq.bq.ap.bq.bq.bq.bq.bq.bq.bq.vi⟩
}
 {
 intro j c
 refine go j (go j (go j (go j (go j (go j (go j (go j (mb (aE j z z) (mi z (mb z (nt (wp_ret (aU [I6 S,.bool false] results132 (rc z (rc z ah)) ?_)))))))))))))
 cases c
 exact ⟨S,false,z,z,b.bq.bq.bq.ap.bq.bq.bq.bq.bq.bq.bq.vi⟩
}
}
}
 rintro _ t8 ⟨k,O,rfl,rfl,b⟩
 refine ⟨_,z,?_⟩
 try dsimp only at c
 refine w0n b (sz (.tuple #[I6 k,.bool O]) 8 z z (si 9 z z (sb 10 z z (si 11 z z (sb 12 z z (bi ?_))))))
 intro w b
 refine tn (ww (mi z (nt ?_)))
 obtain ⟨t9,c,d2⟩:=bn c
 refine cQ (fun a w=>∃ (J:Int),(kB a2 d a1 O k) J=some r∧fz 170 [0,5,6,7,8,9,10] [Pt f 0,Pt p 0,Pt q 0,Pt s 0,I6 k,.bool O,I6 J] a∧St w0 w I [aD (Pt f 0) d,cells p [U1 a2.Kind,U6 a2.ID.Session,U6 a2.ID.Seq,U6 a2.Epoch,U6 a2.Index,I6 a2.E,U6 a2.Hold.ID.Session,U6 a2.Hold.ID.Seq,U6 a2.Hold.Epoch,x,A,B,C,D,I6 a2.R.E,U6 a2.R.Epoch,U6 a2.R.Index,F,G,U6 a2.Shards,H,U6 a2.Rule.ID,I6 a2.Rule.From,I6 a2.Rule.To,F6 a2.Rule.Lo,F6 a2.Rule.Hi,U6 a2.Rule.Authority,I6 a2.Rule.Quota,.bool a2.On],cells q [Zb,Zu,Zu,Zi,Zu,Zu,Zs,Zs],cells s [I6 a2.R.E,U6 a2.Epoch,U6 a1,Zs,Zs]] R) ?_ ?_
 {
 refine wp_seq (dL b mixed (by kernel_rfl) (qz (.bool _) z (qz (.bool _) z (bs c ?_ ?_))))
 {
 intro h c
 refine qgz (Pt _ _) h z (qgz (Pt _ _) h z (qg _ h (fun w b=>aO z underlying111 z sizeOf109 z) (qg _ h (fun w b=>ao z isAgg109 (b.bc0 z)) (qgz (I6 _) h z ?_))))
 obtain ⟨j3,j4,c⟩:=bn c
 obtain ⟨f3,f4,f5⟩:=aK j4
 refine qg _ h (fun w b=>az z z underlying109 sizeOf189 b.sv7 f3 f4) (qg _ h (fun w b=>aR z underlying189 z sizeOf26 z) (qg _ h (fun w b=>ao z isAgg26 (b.ol7 f5 (by rintro _ rfl; rfl))) (qg _ h (fun w b=>aO z underlying49 z sizeOf26 z) (qg _ h (fun w b=>ao z isAgg26 (b.bc8 z)) (qgz (.bool _) h z (qh (.bool _) (fun w b=>aM h z z) (fK ?_)))))))
 intro w b
 refine tn (bw c z ?_ ?_)
 {
 intro j5 c
 refine wrl (mp z (mp z (mf z underlying111 z sizeOf109 (ml z isAgg109 (b.bc0 z) (mi z (mz (az z z underlying109 sizeOf189 b.sv7 f3 f4) (mz (aR z underlying189 z sizeOf3 z) (ml z isAgg3 (b.ol7 f5 (by rintro _ rfl; rfl)) (mi z (nt ?_))))))))))
 cases c
 exact ⟨j3.n,d2,fy z,(aq (Pt f 0) d b.aG.aG.aG.aG.aG.aG.aG.aG z).ap.ap.ap.ap.eF⟩
}
 {
 intro j5 c
 refine wp_skip (tn ?_)
 cases c
 exact ⟨_,d2,fy z,(aq (Pt f 0) d b.aG.aG.aG.aG.aG.aG.aG.aG z).ap.ap.ap.ap.eF⟩
}
}
 {
 intro h c
 refine qo h (qo h (qo h (qo h (qo h (qo h (qo h (qo h (qo h (qo h (qo h (qh (.bool _) (fun w b=>aE h z z) (fK ?_))))))))))))
 intro w b
 refine tn (bT z (wp_skip (tn ?_)))
 cases c
 exact ⟨_,d2,fy z,(aq (Pt f 0) d b.aG.aG.aG.aG.aG.aG.aG.aG z).ap.ap.ap.ap.eF⟩
}
}
 {
 rintro _ u0 ⟨J,c,⟨u1,rfl⟩,b⟩
 dsimp only [kB] at c
 obtain ⟨u2,c,b7⟩:=bn c
 refine cQ (fun a w=>∃ (l:Int),(jk d a2 a1 O k J) l=some r∧fz 170 [0,5,6,7,8,9,10] [Pt f 0,Pt p 0,Pt q 0,Pt s 0,I6 k,.bool O,I6 J] a∧St w0 w I [aD (Pt f 0) d,cells p [U1 a2.Kind,U6 a2.ID.Session,U6 a2.ID.Seq,U6 a2.Epoch,U6 a2.Index,I6 a2.E,U6 a2.Hold.ID.Session,U6 a2.Hold.ID.Seq,U6 a2.Hold.Epoch,x,A,B,C,D,I6 a2.R.E,U6 a2.R.Epoch,U6 a2.R.Index,F,G,U6 a2.Shards,H,U6 a2.Rule.ID,I6 a2.Rule.From,I6 a2.Rule.To,F6 a2.Rule.Lo,F6 a2.Rule.Hi,U6 a2.Rule.Authority,I6 a2.Rule.Quota,.bool a2.On],cells q [Zb,Zu,Zu,Zi,Zu,Zu,Zs,Zs],cells s [I6 l,U6 a2.Epoch,U6 a1,Zs,Zs]] R) ?_ ?_
 {
 refine wp_block (ww (mf z underlying33 z sizeOf29 (ml z isAgg29 (b.bc3 z) (mb z (mb z (nt (bw c z ?_ ?_)))))))
 {
 intro j6 c
 refine wp_skip (bB (tn ?_))
 cases c
 exact ⟨_,b7,fy z,b.ap.ap.ap.ap.eF⟩
}
 {
 intro j6 c
 refine wp_seq ?_
 obtain ⟨u3,u4,u5,u6,u7,u9,v0,v1,d3,j7⟩:=bc b
 replace d3:=dF d3
 subst d3
 have b:=j7
 refine dL b mixed (by kernel_rfl) (qh _ (fun w b=>aO z underlying49 z sizeOf26 z) (qh _ (fun w b=>ao z isAgg26 (b.bc8 z)) (qz (Pt _ _) z (qz (Pt _ _) z (qh _ (fun w b=>aO z underlying111 z sizeOf26 z) (qh _ (fun w b=>ao z isAgg26 (b.bc0 z)) (qz (.bool _) z (qz (.bool _) z (fK ?_)))))))))
 intro w b
 refine tn (bw c z ?_ ?_)
 {
 intro j8 c
 refine wrl (mf z underlying33 z sizeOf29 ?_)
 replace b:=b.bq
 refine byk (I6 9) b z sizeOf29 (oC z oN) fun v2 b=>dk (bB (tn ?_))
 cases c
 exact ⟨_,b7,fy z,(aq (Pt f 0) d b.bH.bH.bH.bH.bH.bH.bH.bH z).ab.ap.ap.ap.eF⟩
}
 {
 intro j8 c
 refine ww (mf z underlying49 z sizeOf42 (ml z isAgg42 (b.bc8 z) (mz (bW z underlying42 (au c2)) (mb z (mb z (nt (bw c z ?_ ?_)))))))
 {
 intro j9 c
 refine wrl (mf z underlying33 z sizeOf29 ?_)
 replace b:=b.bq
 refine byk (I6 1) b z sizeOf29 (oC z oN) fun v3 b=>dk (bB (tn ?_))
 cases c
 exact ⟨_,b7,fy z,(aq (Pt f 0) d b.bH.bH.bH.bH.bH.bH.bH.bH z).ab.ap.ap.ap.eF⟩
}
 {
 intro j9 c
 refine ww (mi z (mf z underlying49 z sizeOf39 (mf z underlying39 z sizeOf3 (ml z isAgg3 (b.bc8 z) (mb z (mb z (nt (bw c z ?_ ?_))))))))
 {
 intro k0 c
 refine wrl (mf z underlying33 z sizeOf29 ?_)
 replace b:=b.bq
 refine byk (I6 13) b z sizeOf29 (oC z oN) fun v4 b=>dk (bB (tn ?_))
 cases c
 exact ⟨_,b7,fy z,(aq (Pt f 0) d b.bH.bH.bH.bH.bH.bH.bH.bH z).ab.ap.ap.ap.eF⟩
}
 {
 intro k0 c
 refine wp_skip (bB (tn ?_))
 cases c
 exact ⟨_,b7,fy z,(aq (Pt f 0) d b.aG.aG.aG.aG.aG.aG.aG.aG z).ap.ap.ap.ap.eF⟩
}
}
}
}
}
 {
 rintro _ v5 ⟨l,c,⟨v6,rfl⟩,b⟩
 dsimp only [jk] at c
 refine wp_seq (wp_seq ?_)
 obtain ⟨v7,v8,v9,k1,x0,x1,x2,k2,d4,k3⟩:=bc b
 replace d4:=dF d4
 subst d4
 have b:=k3
 refine rg b 13 [0,1,3,7,0,16,48,0,128,384,0,2047,4095] [] mixed (sp 0 z z (sp 1 z z (sf 2 z z underlying111 z sizeOf105 (sl 3 z z isAgg105 (fun w b=>b.bc0 z) (sf 4 z z underlying49 z sizeOf28 (sf 5 z z underlying28 z sizeOf26 (sl 6 z z isAgg26 (fun w b=>b.bc8 z) (sf 7 z z underlying49 z sizeOf28 (sf 8 z z underlying28 z sizeOf26 (sl 9 z z isAgg26 (fun w b=>b.bc8 z) (sh _ 10 z (fun w b=>av (cs:=[I6 l,U6 a2.Epoch,U6 a1,Zs,Zs]) z isAgg33 sizeOf33 (b.El 0 z)) (e1 11 z z fun w b=>?_))))))))))))
 have b8:Ro aA I (.slice none 0 0) []:=cv
 have b9:Ro (dG aw) I (.slice none 0 0) []:=cv
 replace b:=b.ap
 obtain ⟨c3,k4,c⟩:=bn c
 refine wec call124 [k1,U6 a2.ID.Session,U6 a2.ID.Seq,.agg #[I6 l,U6 a2.Epoch,U6 a1,Zs,Zs]] z z (kca (nR (a3:=({E:=l,Epoch:=a2.Epoch,Index:=a1,Gots:=[],Scans:=[]}:bp)) b8 b9 b.to1 k4) fun x3 b=>?_)
 replace b:=b.of1
 refine w0n b (sb 12 z z (bi ?_))
 intro w b
 refine tn (bw c z ?_ ?_)
 {
 intro k5 c
 refine ww (mp z (mf z underlying49 z sizeOf28 (mz (av (cs:=[U6 a2.ID.Session,U6 a2.ID.Seq]) z isAgg28 sizeOf28 (b.wG 1 z)) ?_)))
 replace b:=aJ (aq (Pt f 0) (({d with last:=c3.2}:ae)) b.aG.aG.aG.aG.aY.aG.aG.aG z)
 obtain ⟨K,k6,c⟩:=bn c
 refine wc call125 [Pt f 0,.agg #[U6 a2.ID.Session,U6 a2.ID.Seq]] z z z ((oU b.to1 k6).mono ?_)
 rintro _ x4 ⟨d5,d6,rfl,b⟩
 refine ⟨_,z,?_⟩
 replace b:=(bD b.of3.ay).aY
 refine bxk b z sizeOf35 (oJ 6 z (oC (oS b.sv2) (oC (oS b.sv3) oN))) fun x5 b=>nt (wp_ret (aI ?_))
 replace b:=b.ay
 obtain ⟨I819,k7,d7,b⟩:=b.cK
 replace M:=M.trans k7
 replace b:=b.ay
 obtain ⟨I822,f6,k8,b⟩:=b.cK
 replace d7:=d7.mono (ro_le f6)
 replace M:=M.trans f6
 replace b:=aJ b.ab
 cases c
 exact aU [.agg #[U1 K.Kind,U6 K.ID.Session,U6 K.ID.Seq,I6 K.R.E,U6 K.R.Epoch,U6 K.R.Index,d5,d6]] results55 (bj (bF (cs:=[U1 K.Kind,U6 K.ID.Session,U6 K.ID.Seq,I6 K.R.E,U6 K.R.Epoch,U6 K.R.Index,d5,d6]) z isAgg35 sizeOf35 (b.eI 0 z)) ah) ⟨_,d5,d6,z,M,d7,k8,b.bo⟩
}
 {
 intro k5 c
 refine wp_skip (tn ?_)
 obtain ⟨k9,c,f7⟩:=bn c
 refine cQ (fun a w=>∃ (I1065:HL) (d8:ae),(kD a2 l a1) d8=some r∧fz 170 [5,6,7] [Pt p 0,Pt q 0,Pt s 0] a∧I.le I1065∧St w0 w I1065 [cells p [U1 a2.Kind,U6 a2.ID.Session,U6 a2.ID.Seq,U6 a2.Epoch,U6 a2.Index,I6 a2.E,U6 a2.Hold.ID.Session,U6 a2.Hold.ID.Seq,U6 a2.Hold.Epoch,x,A,B,C,D,I6 a2.R.E,U6 a2.R.Epoch,U6 a2.R.Index,F,G,U6 a2.Shards,H,U6 a2.Rule.ID,I6 a2.Rule.From,I6 a2.Rule.To,F6 a2.Rule.Lo,F6 a2.Rule.Hi,U6 a2.Rule.Authority,I6 a2.Rule.Quota,.bool a2.On],cells q [Zb,Zu,Zu,Zi,Zu,Zu,Zs,Zs],cells s [I6 l,U6 a2.Epoch,U6 a1,Zs,Zs],aD (Pt f 0) d8] R) ?_ ?_
 {
 have c4:=HL.le.refl I
 refine ww (mf z underlying33 z sizeOf29 (ml z isAgg29 (b.uz z) (mb z (nt (bw c z ?_ ?_)))))
 {
 intro l0 c
 obtain ⟨x6,c,f8⟩:=bn c
 refine cQ (fun a w=>∃ (g:ae),(kF k a2 J) g=some k9∧fz 170 [0,5,6,7,8,10] [Pt f 0,Pt p 0,Pt q 0,Pt s 0,I6 k,I6 J] a∧St w0 w I [aD (Pt f 0) g,cells p [U1 a2.Kind,U6 a2.ID.Session,U6 a2.ID.Seq,U6 a2.Epoch,U6 a2.Index,I6 a2.E,U6 a2.Hold.ID.Session,U6 a2.Hold.ID.Seq,U6 a2.Hold.Epoch,x,A,B,C,D,I6 a2.R.E,U6 a2.R.Epoch,U6 a2.R.Index,F,G,U6 a2.Shards,H,U6 a2.Rule.ID,I6 a2.Rule.From,I6 a2.Rule.To,F6 a2.Rule.Lo,F6 a2.Rule.Hi,U6 a2.Rule.Authority,I6 a2.Rule.Quota,.bool a2.On],cells q [Zb,Zu,Zu,Zi,Zu,Zu,Zs,Zs],cells s [I6 l,U6 a2.Epoch,U6 a1,Zs,Zs]] R) ?_ ?_
 {
 refine ww (mb z (mb z (nt (bw c z ?_ ?_))))
 {
 intro l1 c
 refine rg b 15 [0,0,2,6,14,0,0,64,192,448,960,2046,4095,8191,16383] [] mixed (sp 0 z z (sp 1 z z (sp 2 z z (sf 3 z z underlying111 z sizeOf109 (sl 4 z z isAgg109 (fun w b=>b.bc1 z) (si 5 z z (sf 6 z z underlying49 z sizeOf39 (sf 7 z z underlying39 z sizeOf26 (sl 8 z z isAgg26 (fun w b=>b.bc8 z) (sk (.agg #[U6 a2.Rule.ID,Zu,Zi]) 9 z (e1 10 z z fun w b=>?_)))))))))))
 obtain ⟨f9,l2,l3,l4,b⟩:=b.er (E:=cH) (xs:=[({kj:=a2.Rule.ID,epoch:=0,n:=0}:ct)]) [[U6 a2.Rule.ID,Zu,Zi]] 189 1 z (bz.cons z bz.nil)
 refine bS (v:=(.slice (some ⟨f9,0,none⟩) 1 1)) (w':=l2) z (di (by kernel_rfl) l3 l4) (wn [5,4,3,2,1,0] b (pz (pkr z z (fun w b=>ao z isAgg109 (b.bc2 z)) (pf z z underlying111 z sizeOf109 (pz (pz (pz bu)))))) (e1 11 z z fun w b=>?_))
 replace b:=b.bH
 obtain ⟨l5,l6,c⟩:=bn c
 refine wec call134 [k2,I6 k,(.slice (some ⟨f9,0,none⟩) 1 1)] z z (kcb (ma b.to2 l6) fun l7 x7 b=>?_)
 replace b:=b.of1
 refine wn [0] b (pz bu) (sp 12 z z (sf 13 z z underlying111 z sizeOf109 (e1 14 z z fun w b=>?_)))
 replace b:=b.ay
 refine b1e l7 b z (oS b.sv1) sizeOf109 fun x8 b=>w0n b (bi ?_)
 intro w b
 refine tn ?_
 cases c
 exact ⟨_,f8,fy z,(aq (Pt f 0) (({d with last:=c3.2,used:=l5}:ae)) b.ab.aG.aG.aG.aW.aG.aG.aG z).ap.ap.ap.ap.eF⟩
}
 {
 intro l1 c
 refine wp_skip (tn ?_)
 cases c
 exact ⟨_,f8,fy z,(aq (Pt f 0) (({d with last:=c3.2}:ae)) b.aG.aG.aG.aG.aY.aG.aG.aG z).ap.ap.ap.ap.eF⟩
}
}
 {
 rintro _ x9 ⟨g,c,⟨y0,rfl⟩,b⟩
 dsimp only [kF] at c
 refine wp_seq ?_
 obtain ⟨y1,c5,c6,c7,c8,c9,c1,d0,d9,l8⟩:=bc b
 replace d9:=dF d9
 subst d9
 have b:=l8
 refine rg b 20 [0,1,3,7,0,0,32,96,224,0,0,1024,0,4096,3583,19967,52735,131071,262143,524287] [] mixed (sp 0 z z (sp 1 z z (sf 2 z z underlying111 z sizeOf109 (sl 3 z z isAgg109 (fun w b=>b.bc0 z) (si 4 z z (sp 5 z z (sp 6 z z (sf 7 z z underlying111 z sizeOf109 (sl 8 z z isAgg109 (fun w b=>b.bc0 z) (si 9 z z (sf 10 z z underlying49 z sizeOf26 (sl 11 z z isAgg26 (fun w b=>b.bc8 z) (si 12 z z (si 13 z z ?_))))))))))))))
 obtain ⟨m,l9,c⟩:=bn c
 obtain ⟨g0,g1,g2⟩:=aK l9
 refine sh _ 14 z (fun w b=>az z z underlying109 sizeOf189 b.sv7 g0 g1) (sh _ 15 z (fun w b=>aR z underlying189 z sizeOf26 z) (e1 16 z z fun w b=>?_))
 replace b:=b.aG
 obtain ⟨y2,m0,b⟩:=b.nW (P:=prog) (t:=26) (y:=({m with epoch:=a2.Epoch}:ct)) g2 1 (.int .u64 a2.Epoch) sizeOf26 (Nat.le_of_ble_eq_true z) (oC z oN) (by rintro _ rfl; rfl)
 have m1:=Ay g2 ({m with epoch:=a2.Epoch}:ct)
 have m2:=Cc g1 k.toNat ({m with epoch:=a2.Epoch}:ct)
 refine qf z (oa m0) (wn [13,12,9] b (pz (pz (pz bu))) (sh _ 17 z (fun w b=>az z z underlying109 sizeOf189 b.sv0 g0 m2) (sh _ 18 z (fun w b=>aR z underlying189 z sizeOf3 z) (e1 19 z z fun w b=>?_))))
 obtain ⟨y3,m3,b⟩:=b.nW (P:=prog) (t:=3) (y:=({kj:=({m with epoch:=a2.Epoch}:ct).kj,epoch:=({m with epoch:=a2.Epoch}:ct).epoch,n:=(i64.wrap (J+1))}:ct)) m1 2 (.int .i64 (i64.wrap (J+1))) sizeOf3 (Nat.le_of_ble_eq_true z) (oC z oN) (by rintro _ rfl; rfl)
 refine qf z (oa m3) (w0n b (bi ?_))
 intro w b
 refine tn (rg b 36 [0,0,2,6,14,0,32,96,0,0,512,1536,3840,7936,16128,32512,0,65536,196608,0,524288,0,2097152,6291456,14680064,0,33554432,100663296,234881024,534781696,1073741792,2147483616,4294967294,8589934591,17179869183,34359738367] [] mixed (sp 0 z z (sp 1 z z (sp 2 z z (sf 3 z z underlying111 z sizeOf50 (sl 4 z z isAgg50 (fun w b=>b.bc1 z) (sf 5 z z underlying49 z sizeOf39 (sf 6 z z underlying39 z sizeOf3 (sl 7 z z isAgg3 (fun w b=>b.bc8 z) (sp 8 z z (sf 9 z z underlying49 z sizeOf39 (sf 10 z z underlying39 z sizeOf3 (sl 11 z z isAgg3 (fun w b=>b.bc8 z) (sf 16 z z underlying49 z sizeOf39 (sf 17 z z underlying39 z sizeOf26 (sl 18 z z isAgg26 (fun w b=>b.bc8 z) (sf 19 z z underlying49 z sizeOf26 (sl 20 z z isAgg26 (fun w b=>b.bc8 z) (sf 21 z z underlying49 z sizeOf42 (sl 22 z z isAgg42 (fun w b=>b.bc8 z) ?_))))))))))))))))))))
 obtain ⟨b4,m4,c⟩:=bn c
 obtain ⟨g3,g4,m5⟩:=aK m4
 refine sh _ 23 z (fun w b=>az z z underlying42 sizeOf41 (au c2) g3 g4) ?_
 obtain ⟨y4,m6,g5⟩:=Rd.jV c2 m5
 obtain ⟨e0,rfl,m7,-⟩:=m6
 refine sh _ 24 z (fun w b=>av (cs:=[F6 b4.At,.bool b4.Del,e0]) z isAgg41 sizeOf41 (dO (o:=0) (g5 lr b) z)) (sp 25 z z (sp 26 z z (sf 27 z z underlying111 z sizeOf3 (sl 28 z z isAgg3 (fun w b=>b.bc1 z) (e1 12 z z fun w b=>?_)))))
 obtain ⟨g6,m8,c⟩:=bn c
 refine ox z (dE call15 (caps:=[]) z (vs:=[Pt f 0,I6 a2.Rule.To]) z) (Calls.mono (show Calls prog 15 #[Pt f 0,I6 a2.Rule.To] _ (fun e w'=>∃ (Q:(List cW)) (e2:Value),Q=g6∧e = .returned (e2)∧St w0 w' I [aZ cb e2 Q,cells f [I6 g.wide,U6 g.epoch,c5,c6,c7,c8,c9,c1,d0],cE cI c5 g.store,cE bP c6 g.locks,cE ca c7 g.last,cE cL c8 g.book,aZ aH c9 g.open_,aZ cb c1 g.out,aZ cH d0 ((g.used.set k.toNat ({m with epoch:=a2.Epoch}:ct)).set k.toNat ({kj:=({m with epoch:=a2.Epoch}:ct).kj,epoch:=({m with epoch:=a2.Epoch}:ct).epoch,n:=(i64.wrap (J+1))}:ct)),cells p [U1 a2.Kind,U6 a2.ID.Session,U6 a2.ID.Seq,U6 a2.Epoch,U6 a2.Index,I6 a2.E,U6 a2.Hold.ID.Session,U6 a2.Hold.ID.Seq,U6 a2.Hold.Epoch,x,A,B,C,D,I6 a2.R.E,U6 a2.R.Epoch,U6 a2.R.Index,F,G,U6 a2.Shards,H,U6 a2.Rule.ID,I6 a2.Rule.From,I6 a2.Rule.To,F6 a2.Rule.Lo,F6 a2.Rule.Hi,U6 a2.Rule.Authority,I6 a2.Rule.Quota,.bool a2.On],cells q [Zb,Zu,Zu,Zi,Zu,Zu,Zs,Zs],cells s [I6 l,U6 a2.Epoch,U6 a1,Zs,Zs]] R) from ?_) ?_)
 {
 clear c; have c:=m8
 refine c0 func15 z ntmps15 (ww (mv ((.slice none 0 0)) z (nt (ww (mv ((.slice none 0 0)) z (nt (wp_seq (ww (mp z (mk (.bool false) (nt (bT z (wp_skip (tn (wp_seq (ww (mp z (mp z (mf z underlying111 z sizeOf50 (ml z isAgg50 (b.bc1 z) (mz (bW z underlying50 b.sv7) (mi z (nt (wp_block ?_))))))))))))))))))))))))
 replace b:=b.aX cb
 obtain ⟨m9,c⟩:=aS c
 refine bf (fun n a w=>∃ (e3:Int) (b5:(List cW)) (L:Value),cP (gL g a2) n (e3,b5)=some g6∧fz 30 [1,5,14,15,16] [I6 a2.Rule.To,L,c1,I6 ((g.out).length:Int),I6 e3] a∧St w0 w I [aZ cb L b5,aZ cH d0 ((g.used.set k.toNat ({m with epoch:=a2.Epoch}:ct)).set k.toNat ({kj:=({m with epoch:=a2.Epoch}:ct).kj,epoch:=({m with epoch:=a2.Epoch}:ct).epoch,n:=(i64.wrap (J+1))}:ct)),cells f [I6 g.wide,U6 g.epoch,c5,c6,c7,c8,c9,c1,d0],cE cI c5 g.store,cE bP c6 g.locks,cE ca c7 g.last,cE cL c8 g.book,aZ aH c9 g.open_,aZ cb c1 g.out,cells p [U1 a2.Kind,U6 a2.ID.Session,U6 a2.ID.Seq,U6 a2.Epoch,U6 a2.Index,I6 a2.E,U6 a2.Hold.ID.Session,U6 a2.Hold.ID.Seq,U6 a2.Hold.Epoch,x,A,B,C,D,I6 a2.R.E,U6 a2.R.Epoch,U6 a2.R.Index,F,G,U6 a2.Shards,H,U6 a2.Rule.ID,I6 a2.Rule.From,I6 a2.Rule.To,F6 a2.Rule.Lo,F6 a2.Rule.Hi,U6 a2.Rule.Authority,I6 a2.Rule.Quota,.bool a2.On],cells q [Zb,Zu,Zu,Zi,Zu,Zu,Zs,Zs],cells s [I6 l,U6 a2.Epoch,U6 a1,Zs,Zs]] R) m9 ⟨0,[],Zs,c,fy z,b⟩ ?_
 rintro y5 _ y6 ⟨e3,b5,L,c,⟨y7,rfl⟩,b⟩
 obtain ⟨y8,y9,rfl,c,e4⟩:=aV c
 dsimp only [gL] at c
 refine ww (mb z (nt (wp_seq (bw c z ?_ ?_))))
 {
 intro n0 c
 refine wp_skip (tn (wp_seq (wp_block (ww ?_))))
 obtain ⟨i,n1,c⟩:=bn c
 obtain ⟨n2,n3,n4⟩:=aK n1
 refine mz (az z z underlying50 sizeOf53 b.sv8 n2 n3) ?_
 obtain ⟨A0,n5,n6⟩:=b.og8 n4
 obtain ⟨e5,rfl,e6,-⟩:=n5
 refine mz (av (cs:=[I6 i.To,U6 i.N,U6 i.Rule,U6 i.Epoch,F6 i.W.At,.bool i.W.Del,e5]) z isAgg53 sizeOf53 (dO (o:=0) n6 z)) ?_
 obtain ⟨A1,A2,n7,n8,b⟩:=b.box [Zi,Zu,Zu,Zu,Zf,.bool false,Zs] 53
 refine wa n7 n8 (bxk b z sizeOf53 (oJ 6 z (oC (oS (ag e6)) oN)) fun A3 b=>nt (ww (mf z underlying53 z sizeOf3 (ml z isAgg3 (b.bc0 z) (mi z (mb z (nt (bw c z ?_ ?_))))))))
 {
 intro n9 c
 refine wrl (mv (L) z (mz (av (cs:=[I6 i.To,U6 i.N,U6 i.Rule,U6 i.Epoch,F6 i.W.At,.bool i.W.Del,e5]) z isAgg53 sizeOf53 (b.eD 0 z)) ?_))
 obtain ⟨o1,o2,o3,o4,b⟩:=b.er (E:=cb) (xs:=[i]) [[I6 i.To,U6 i.N,U6 i.Rule,U6 i.Epoch,F6 i.W.At,.bool i.W.Del,e5]] 53 1 z (bz.cons ⟨_,z,e6,oS (ag e6)⟩ bz.nil)
 refine bY (v:=(.slice (some ⟨o1,0,none⟩) 1 1)) (w':=o2) z z (di (by kernel_rfl) o3 o4) ?_
 obtain ⟨o5,c⟩:=cw c
 replace b:=b.ay
 obtain ⟨e7,o6,o7,b⟩:=bE sD underlying50 b b.jr (cF o5 z) 50
 refine bY (v:=e7) (w':=o6) z z (bU z z o7) (mv (e7) z (dk (bB (tn (wrl (mi z (mi z (nt ?_))))))))
 cases c
 exact ⟨_,nls,_,(b5++([i])),e7,e4,fy z,b.py.py.py.py.py.py.py.py.py.py.py.nV.zO⟩
}
 {
 intro n9 c
 refine wp_skip (bB (tn (wrl (mi z (mi z (nt ?_))))))
 cases c
 exact ⟨_,nls,_,b5,L,e4,fy z,b.nz.nz.nz.nz.nz.nz.nz.nz.nz.nz.nz.nz.zO⟩
}
}
 {
 intro n0 c
 refine wp_exit (aQ (aQ ?_))
 replace c:=bg c e4
 refine cZ (tn (ww (mv (L) z (mv (L) z (nt (wp_ret (aU [L] results15 (rc z ah) ?_)))))))
 obtain rfl:=sj c
 exact ⟨b5,L,z,z,b.nV.nV.nV.aY.nV.nV.nV.nV.nV.nV.nV.nV.zO⟩
}
}
 rintro _ A4 ⟨Q,e2,rfl,rfl,b⟩
 refine ⟨_,z,?_⟩
 try dsimp only at c
 refine wn [28,27,26,25,24,23,22,21,20,19,18,17,16,7,6,5,4,3,2,1,0] b (pkr z z (fun w b=>ao z isAgg3 (b.bc1 z)) (pf z z underlying111 z sizeOf3 (pz (pz (pkr z z (fun w b=>av (cs:=[F6 b4.At,.bool b4.Del,e0]) z isAgg41 sizeOf41 (dO (o:=0) (g5 lr b) z)) (pkr z z (fun w b=>az z z underlying42 sizeOf41 (au c2) g3 g4) (pkr z z (fun w b=>ao z isAgg42 (b.bc9 z)) (pf z z underlying49 z sizeOf42 (pkr z z (fun w b=>ao z isAgg26 (b.bc9 z)) (pf z z underlying49 z sizeOf26 (pkr z z (fun w b=>ao z isAgg26 (b.bc9 z)) (pf z z underlying39 z sizeOf26 (pf z z underlying49 z sizeOf39 (pkr z z (fun w b=>ao z isAgg3 (b.bc9 z)) (pf z z underlying39 z sizeOf3 (pf z z underlying49 z sizeOf39 (pkr z z (fun w b=>ao z isAgg50 (b.bc1 z)) (pf z z underlying111 z sizeOf50 (pz (pz (pz bu))))))))))))))))))))) (sh _ 13 z (fun w b=>bW z underlying50 b.sv0) (si 14 z z (sk (.int .u64 (u64.wrap (i64.wrap (((Q).length:Int)+1)))) 15 z (e1 29 z z fun w b=>?_))))
 obtain ⟨b6,o8,c⟩:=bn c
 refine wec call17 [.agg #[F6 b4.At,.bool b4.Del,e0],I6 g.wide] z z (kcb (xE (m7.mono (cy _)) b.to0 o8) fun g7 A5 b=>?_)
 replace b:=b.of1
 refine wn [15,14,13,20,19,18,17,16,7,6,5,4,3,2,1,0] b (pkr z z (fun w b=>by kernel_rfl) (pz (pkr z z (fun w b=>bW z underlying50 b.sv1) (pkr z z (fun w b=>ao z isAgg26 (b.uz z)) (pf z z underlying49 z sizeOf26 (pkr z z (fun w b=>ao z isAgg26 (b.uz z)) (pf z z underlying39 z sizeOf26 (pf z z underlying49 z sizeOf39 (pkr z z (fun w b=>ao z isAgg3 (b.uz z)) (pf z z underlying39 z sizeOf3 (pf z z underlying49 z sizeOf39 (pkr z z (fun w b=>ao z isAgg50 (b.bc2 z)) (pf z z underlying111 z sizeOf50 (pz (pz (pz bu)))))))))))))))) (wsr (.agg #[I6 a2.Rule.To,U6 (u64.wrap (i64.wrap (((Q).length:Int)+1))),U6 a2.Rule.ID,U6 a2.Epoch,F6 b6.At,.bool b6.Del,g7]) 30 rfl rfl rfl (by kernel_rfl) (fun w b=>by obtain ⟨_,_,hv_,_⟩:=b.sv0; rw [hv_]; kernel_rfl) (e1 31 z z fun w b=>?_))
 obtain ⟨I1049,o9,g8,b⟩:=b.cK
 replace c4:=c4.trans o9
 obtain ⟨q0,q1,q2,q3,b⟩:=b.er (E:=cb) (xs:=[({To:=a2.Rule.To,N:=(u64.wrap (i64.wrap (((Q).length:Int)+1))),Rule:=a2.Rule.ID,Epoch:=a2.Epoch,W:=b6}:cW)]) [[I6 a2.Rule.To,U6 (u64.wrap (i64.wrap (((Q).length:Int)+1))),U6 a2.Rule.ID,U6 a2.Epoch,F6 b6.At,.bool b6.Del,g7]] 53 1 z (bz.cons ⟨_,z,g8,oS (ag g8)⟩ bz.nil)
 refine bS (v:=(.slice (some ⟨q0,0,none⟩) 1 1)) (w':=q1) z (di (by kernel_rfl) q2 q3) (wn [4,3,2,1,0] b (pkr z z (fun w b=>ao z isAgg50 (b.bc2 z)) (pf z z underlying111 z sizeOf50 (pz (pz (pz bu))))) (e1 32 z z fun w b=>?_))
 obtain ⟨q4,c⟩:=cw c
 replace b:=b.bH
 obtain ⟨g9,q5,q6,b⟩:=bE sD underlying50 b b.jr (cF q4 z) 50
 refine bS (v:=g9) (w':=q5) z (bU z z q6) (wn [0] b (pz bu) (sp 33 z z (sf 34 z z underlying111 z sizeOf50 (e1 35 z z fun w b=>?_))))
 replace b:=b.ap
 refine b1e g9 b z (oS b.sv1) sizeOf50 fun A6 b=>w0n b (bi ?_)
 intro w b
 refine tn ?_
 cases c
 exact ⟨_,_,f7,fy z,c4,(aq (Pt f 0) (({g with out:=(g.out++([({To:=a2.Rule.To,N:=(u64.wrap (i64.wrap (((Q).length:Int)+1))),Rule:=a2.Rule.ID,Epoch:=a2.Epoch,W:=b6}:cW)])),used:=((g.used.set k.toNat ({m with epoch:=a2.Epoch}:ct)).set k.toNat ({kj:=({m with epoch:=a2.Epoch}:ct).kj,epoch:=({m with epoch:=a2.Epoch}:ct).epoch,n:=(i64.wrap (J+1))}:ct))}:ae)) b.bO.ay.bO.bO.bO.bO.bO.aG z).aW.aW.aW.eF⟩
}
}
 {
 intro l0 c
 refine wp_skip (tn ?_)
 cases c
 exact ⟨_,_,f7,fy z,c4,(aq (Pt f 0) (({d with last:=c3.2}:ae)) b.aG.aG.aG.aG.aY.aG.aG.aG z).ap.ap.ap.eF⟩
}
}
 {
 rintro _ A7 ⟨I1065,d8,c,⟨A8,rfl⟩,e8,b⟩
 dsimp only [kD] at c
 replace b8:=b8.mono (ro_le e8)
 replace b9:=b9.mono (ro_le e8)
 replace M:=M.trans e8
 refine ww (mf z underlying49 z sizeOf28 (mz (av (cs:=[U6 a2.ID.Session,U6 a2.ID.Seq]) z isAgg28 sizeOf28 (b.eD 1 z)) (mz (av (cs:=[I6 l,U6 a2.Epoch,U6 a1,Zs,Zs]) z isAgg33 sizeOf33 (b.pQ 0 z)) (mk (.agg #[U1 4,U6 a2.ID.Session,U6 a2.ID.Seq,I6 l,U6 a2.Epoch,U6 a1,Zs,Zs]) ?_))))
 replace b:=b.ab
 refine bxk b z sizeOf35 (oJ 6 z (oC (oS (ag b8)) (oC (oS (ag b9)) oN))) fun A9 b=>nt (wp_ret ?_)
 replace b:=aJ b.ap
 cases c
 exact aU [.agg #[U1 4,U6 a2.ID.Session,U6 a2.ID.Seq,I6 l,U6 a2.Epoch,U6 a1,Zs,Zs]] results55 (bj (bF (cs:=[U1 4,U6 a2.ID.Session,U6 a2.ID.Seq,I6 l,U6 a2.Epoch,U6 a1,Zs,Zs]) z isAgg35 sizeOf35 (b.eI 0 z)) ah) ⟨_,Zs,Zs,z,M,b8,b9,b.bo⟩
}
}
}
}
}
}
end Go.Proofs.YtgnkkopjkgdieaaGreat
