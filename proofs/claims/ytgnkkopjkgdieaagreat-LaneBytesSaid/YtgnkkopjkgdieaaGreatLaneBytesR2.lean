/- A part of the proof. -/
import Derived.Test.YtgnkkopjkgdieaaGreatLaneBytesR1
set_option linter.unusedVariables false
set_option linter.unusedSimpArgs false
set_option maxRecDepth 100000
set_option maxHeartbeats 4000000
namespace Go.Proofs.YtgnkkopjkgdieaaGreat
open Go Go.V
open _root_.Go.Proofs.Tryz IntKind
variable {w0 w:World} {I:HL} {R:SP}
attribute [local irreducible] wpList Code.wp wpQuiet Calls bodyPost Oper.wp wpS Nx kL YieldsIn
theorem rP {a0:ag} {p0:Value} (b:St w0 w I [bd p0 a0] R) {r:(bB×ag)} (c:gW a0=some r) :
  Calls prog 161 #[p0] w fun e w'=>∃ (I':HL) (b3:Value) (b4:Value),e = .returned (.agg #[I6 r.1.E,U6 r.1.ae,U6 r.1.Index,b3,b4])∧I.le I'∧St w0 w' I' [bp aK b3 r.1.dT,bp (eC aH) b4 r.1.aX,bd p0 r.2] R:=by {
 unfold gW at c
 refine c0 func161 z z ?_
 have s:=HL.le.refl I
 refine ww ?_
 obtain ⟨d,h9,c5,c6,b⟩:=b.box [Zi,Zu,Zu,Zs,Zs] 33
 refine wa c5 c6 (nt (ww (mv (p0) z ?_)))
 replace b:=b.ah
 obtain ⟨h,c7,c⟩:=bn c
 refine wc call98 [p0,I6 1] z z z (kcI (aN b.to1 c7) fun i0 b=>mk (.int .i64 (i64.wrap h.1)) (mv (p0) z (bk c fun i c8 c=>wc call98 [p0,I6 8] z z z (kcI (aN b.to1 c8) fun i1 b=>mv (p0) z (bk c fun j c9 c=>wc call98 [p0,I6 8] z z z (kcI (aN b.to1 c9) fun i2 b=>mk (.agg #[I6 (i64.wrap h.1),U6 i.1,U6 j.1,Zs,Zs]) ?_))))))
 obtain ⟨f,i3,d0,d1,b⟩:=b.box [Zi,Zu,Zu,Zs,Zs] 33
 refine wa d0 d1 (bxk b z sI (oJ 5 z oN) fun i4 b=>nt ?_)
 obtain ⟨d2,c,d3⟩:=bn c
 refine cR (fun a w=>∃ (C:HL) (N:ag) (l:(List cC)) (g:Value),(po h i j) (N,l)=some r∧fz 54 [0,2,3] [p0,Pt d 0,Pt f 0] a∧I.le C∧St w0 w C [bd p0 N,cells d [Zi,Zu,Zu,Zs,Zs],cells f [I6 (i64.wrap h.1),U6 i.1,U6 j.1,g,Zs],bp aK g l] R) ?_ ?_
 {
 have O:=HL.le.refl I
 refine ww (mv (p0) z ?_)
 replace b:=b.ah
 obtain ⟨P,d4,c⟩:=bn c
 refine wc call104 [p0,I6 32] z z z (kcI (dm b.to1 d4) fun i5 b=>mi z (nt (au ?_)))
 replace b:=b.ba aK
 obtain ⟨d5,c⟩:=aS c
 refine bg (fun n a w=>∃ (Q:HL) (t:(List cC)) (D:ag) (S:Int) (F:Value),cU (fC P) n (t,D,S)=some d2∧fz 54 [0,2,3,14,15] [p0,Pt d 0,Pt f 0,I6 P.1,I6 S] a∧I.le Q∧St w0 w Q [bp aK F t,bd p0 D,cells f [I6 (i64.wrap h.1),U6 i.1,U6 j.1,F,Zs],cells d [Zi,Zu,Zu,Zs,Zs]] R) d5 ⟨_,[],P.2,0,Zs,c,fy z,lr,b⟩ ?_
 rintro i6 _ i7 ⟨Q,t,D,S,F,c,⟨i8,rfl⟩,G,b⟩
 obtain ⟨i9,j0,rfl,c,b5⟩:=aU c
 dsimp only [fC] at c
 replace O:=O.trans G
 refine ww (mb z (nt (aj (bw c z ?_ ?_))))
 {
 refine fun d6 c=>al (tn (aj (au (rg b 11 [0,1,0,4,0,28,60,124,255,511,1023] [] mixed (sF 0 z z fI (sL 1 z z (·.bc2 z) (sz (p0) 2 z z (sz (p0) 4 z z (e1 3 z z fun w b=>?_)))))))))
 replace b:=b.ah
 obtain ⟨H,d7,c⟩:=bn c
 refine wec call108 [p0] z z (kcI (lE b.to1 d7) fun j1 b=>wn [4,1,0] b (pz (pL z z (·.bc2 z) (pF z z fI aT))) (e1 5 z z fun w b=>bk c fun b6 d8 c=>wec call100 [p0,I6 256] z z (kdJ (ef b.to1 d8) fun b7 j2 b=>wn [1,0] b (pL z z (·.bc3 z) (pF z z fI aT)) (wsr (.agg #[.bool H.1,b7]) 6 rfl rfl rfl krA (fun w b=>by obtain ⟨_,_,hv_,_⟩:=b.sv0; rw [hv_]; kernel_rfl) ?_))))
 refine e1 7 z z fun w b=>?_
 obtain ⟨j3,d9,b8,b⟩:=b.cO
 replace G:=G.trans d9
 obtain ⟨e0,e2,e3,e4,b⟩:=b.lits (E:=aK) (xs:=[({Has:=H.1,Val:=b6.1}:cC)]) [[.bool H.1,b7]] 61 1 z (bT.cons ⟨_,z,b8,oS (ak b8)⟩ bT.nil)
 refine cj (v:=(.slice (some ⟨e0,0,none⟩) 1 1)) (w':=e2) z (dH krA e3 e4) (wn [1,0] b (pL z z (·.bc3 z) (pF z z fI aT)) (e1 8 z z fun w b=>?_))
 obtain ⟨e5,c⟩:=cF c
 replace b:=b.aD
 obtain ⟨T,e6,e7,b⟩:=bO Af underlying30 b b.iL (cP e5 z) 30
 refine cj (v:=T) (w':=e6) z (ck z z e7) (w0n b (sF 9 z z fI (e1 10 z z fun w b=>?_)))
 replace b:=b.aA
 refine b1e T b z (oS b.sv1) sI fun j4 b=>w0n b (bt ?_)
 refine fun w b=>bJ (tn (wrl (mi z (mi z (nt ?_)))))
 cases c
 exact ⟨_,nls,_,(t++([({Has:=H.1,Val:=b6.1}:cC)])),_,_,T,b5,fy z,G,b.bj.ah.bj.aA.eQ⟩
}
 refine fun d6 c=>bH (aQ (aQ ?_))
 replace c:=bz c b5
 refine cZ (tn ?_)
 cases c
 exact ⟨_,D,t,F,d3,fy z,O,b.aD.aA.aA.eQ⟩
}
 rintro _ j5 ⟨C,N,l,g,c,⟨j6,rfl⟩,e8,b⟩
 dsimp only [po] at c
 replace s:=s.trans e8
 refine aj (ww (mv (p0) z (bk c fun u e9 c=>wc call104 [p0,I6 32] z z z (kcI (dm b.to1 e9) fun j7 b=>mi z (nt (au ?_))))))
 replace b:=b.ba (eC aH)
 obtain ⟨f0,c⟩:=aS c
 refine bg (fun n a w=>∃ (o:HL) (m:(List (List bP))) (U:ag) (p:Int) (k:Value),cU (fD u h i j l) n (m,U,p)=some r∧fz 54 [0,2,3,29,30] [p0,Pt d 0,Pt f 0,I6 u.1,I6 p] a∧C.le o∧St w0 w o [bp (eC aH) k m,bd p0 U,cells d [Zi,Zu,Zu,Zs,Zs],cells f [I6 (i64.wrap h.1),U6 i.1,U6 j.1,g,k],bp aK g l] R) f0 ⟨_,[],u.2,0,Zs,c,fy z,lr,b⟩ ?_
 rintro j8 _ j9 ⟨o,m,U,p,k,c,⟨k0,rfl⟩,q,b⟩
 obtain ⟨k1,f1,rfl,c,b9⟩:=aU c
 dsimp only [fD] at c
 replace s:=s.trans q
 refine ww (mb z (nt (aj (bw c z ?_ ?_))))
 {
 refine fun f2 c=>al (tn (aj (au (ww (mv ((.slice none 0 0)) z (nt ?_))))))
 obtain ⟨f3,c,f4⟩:=bn c
 refine cR (fun a w=>∃ (V:HL) (J:ag) (x:(List bP)) (y:Value),(oK m p) (J,x)=some f1∧fz 54 [0,2,3,4,29,30] [p0,Pt d 0,Pt f 0,y,I6 u.1,I6 p] a∧o.le V∧St w0 w V [bd p0 J,cells d [Zi,Zu,Zu,Zs,Zs],cells f [I6 (i64.wrap h.1),U6 i.1,U6 j.1,g,k],bp aK g l,bp (eC aH) k m,bp aH y x] R) ?_ ?_
 {
 have W:=HL.le.refl o
 refine ww (mv (p0) z ?_)
 replace b:=b.ah
 obtain ⟨X,f5,c⟩:=bn c
 refine wc call104 [p0,I6 64] z z z (kcI (dm b.to1 f5) fun k2 b=>mi z (nt (au ?_)))
 replace b:=b.ba aH
 obtain ⟨f6,c⟩:=aS c
 refine bg (fun n a w=>∃ (Y:HL) (K:ag) (Z:Int) (A:(List bP)) (B:Value),cU (fA X) n (K,Z,A)=some f3∧fz 54 [0,2,3,4,29,30,33,34] [p0,Pt d 0,Pt f 0,B,I6 u.1,I6 p,I6 X.1,I6 Z] a∧o.le Y∧St w0 w Y [bp aH B A,bd p0 K,bp (eC aH) k m,cells d [Zi,Zu,Zu,Zs,Zs],cells f [I6 (i64.wrap h.1),U6 i.1,U6 j.1,g,k],bp aK g l] R) f6 ⟨_,X.2,0,[],Zs,c,fy z,lr,b⟩ ?_
 rintro k3 _ k4 ⟨Y,K,Z,A,B,c,⟨k5,rfl⟩,L,b⟩
 obtain ⟨k6,k7,rfl,c,c1⟩:=aU c
 dsimp only [fA] at c
 replace W:=W.trans L
 refine ww (mb z (nt (aj (bw c z ?_ ?_))))
 {
 refine fun f7 c=>al (tn (aj (au (wrl (mv (B) z (mv (p0) z ?_))))))
 replace b:=b.ah
 obtain ⟨f8,f9,c⟩:=bn c
 refine wc call98 [p0,I6 8] z z z (kcI (aN b.to1 f9) fun k8 b=>bk c fun M g0 c=>wc call107 [U6 f8.1] z z z (kcO (fq b.to0 g0) fun k9 b=>mv (p0) z (bk c fun c2 g1 c=>wc call100 [p0,I6 256] z z z (kdJ (ef b.to1 g1) fun c3 l0 b=>wv (.agg #[F6 M,c3]) z z (by obtain ⟨_,_,hv_,_⟩:=b.sv0; rw [hv_]; kernel_rfl) ?_))))
 obtain ⟨l1,g2,c4,b⟩:=b.cO
 replace L:=L.trans g2
 obtain ⟨g3,g4,g5,g6,b⟩:=b.lits (E:=aH) (xs:=[({At:=M,Val:=c2.1}:bP)]) [[F6 M,c3]] 152 1 z (bT.cons ⟨_,z,c4,oS (ak c4)⟩ bT.nil)
 refine cK (v:=(.slice (some ⟨g3,0,none⟩) 1 1)) (w':=g4) z z (dH krA g5 g6) ?_
 obtain ⟨g7,c⟩:=cF c
 replace b:=b.aD
 obtain ⟨b0,g8,g9,b⟩:=bO Ak underlying81 b b.iL (cP g7 z) 81
 refine cK (v:=b0) (w':=g8) z z (ck z z g9) (mv (b0) z (dv (bJ (tn (wrl (mi z (mi z (nt ?_))))))))
 cases c
 exact ⟨_,nls,_,_,_,(A++([({At:=M,Val:=c2.1}:bP)])),b0,c1,fy z,L,b.de.de.de.de.de.bq.lh⟩
}
 refine fun f7 c=>bH (aQ (aQ ?_))
 replace c:=bz c c1
 refine cZ (tn ?_)
 cases c
 exact ⟨_,K,A,B,f4,fy z,W,b.aD.bq.bq.bq.bq.lh⟩
}
 rintro _ l2 ⟨V,J,x,y,c,⟨l3,rfl⟩,h0,b⟩
 dsimp only [oK] at c
 replace q:=q.trans h0
 refine wrl (mF z fI (mL z (b.bc2 z) (mv (y) z ?_)))
 replace b:=b.bq
 obtain ⟨l4,h1,b1,b⟩:=b.cO
 replace q:=q.trans h1
 obtain ⟨h2,h3,h4,h5,b⟩:=b.lits (E:=(eC aH)) (xs:=[x]) [[y]] 81 1 z (bT.cons ⟨_,z,b1,oS (ak b1)⟩ bT.nil)
 refine cK (v:=(.slice (some ⟨h2,0,none⟩) 1 1)) (w':=h3) z z (dH (by obtain ⟨_,_,hv_,_⟩:=(ak b1); rw [hv_]; kernel_rfl) h4 h5) ?_
 obtain ⟨h6,c⟩:=cF c
 replace b:=b.bq
 obtain ⟨b2,h7,h8,b⟩:=bO Ai underlying31 b b.iL (cP h6 z) 31
 refine cK (v:=b2) (w':=h7) z z (ck z z h8) (mF z fI ?_)
 replace b:=b.bj
 refine b1k b2 b z (oS b.sv1) sI fun l5 b=>dv (bJ (tn (wrl (mi z (mi z (nt ?_))))))
 cases c
 exact ⟨_,nls,_,(m++([x])),J,_,b2,b9,fy z,q,b.bq.ah.bq.bq.bj.oB⟩
}
 refine fun f2 c=>bH (aQ (aQ ?_))
 replace c:=bz c b9
 refine cZ (tn (ww (mz (xN z (b.ul 0 tz)) ?_)))
 replace b:=b.aD
 refine bxk b z sI (oJ 3 z (oC (oS b.sv4) (oC (oS b.sv1) oN))) fun l6 b=>nt (ar ?_)
 cases c
 exact prI z (rN z (b.fm 0 tz)) ⟨_,g,k,z,s,b.aD.aD.bj.eu⟩
}
theorem yz {a0:(List Int)} {i:Value} (t:Ro (cr .u8) I i a0) (b:St w0 w I [] R) {r:(bE×Int)} (c:pn a0=some r) :
  Calls prog 102 #[i] w fun e w'=>∃ (I':HL) (L:Value),e = .returned (.tuple #[L,I6 r.2])∧I.le I'∧St w0 w' I' [bV L r.1] R:=by {
 unfold pn at c
 refine c0 func102 z z ?_
 have D:=HL.le.refl I
 refine ww (mv (.pointer none) z (mi z (nt (ww (mv (i) z (bk c fun e9 W c=>wc call97 [i] z z z (kdI (nj t b.to0 W) fun f f0 b=>mv (f) z (nt (ww (bk c fun X Y c=>wc call45 [] z z z (kdI (vP b.to0 Y) fun h f1 b=>mv (h) z (nt ?_))))))))))))
 obtain ⟨Z,c,b0⟩:=ee c
 refine cR (fun a w=>∃ (F:HL) (G:ag) (H:bE),(oA a0) (G,H)=some r∧fz 68 [0,4,5] [i,f,h] a∧I.le F∧St w0 w F [bd f G,bV h H] R) ?_ ?_
 {
 have J:=HL.le.refl I
 refine ww (mv (f) z (mv (f) z ?_))
 replace b:=b.ah
 obtain ⟨b1,b2,c⟩:=bn c
 refine wc call105 [f] z z z (kcI (fl b.to1 b2) fun f2 b=>bk c fun u b3 c=>wc call104 [f,I6 b1] z z z (kcI (dm b.to1 b3) fun f3 b=>mi z (nt (au ?_))))
 obtain ⟨b4,c⟩:=aS c
 refine bg (fun n a w=>∃ (K:HL) (x:ag) (j:bE) (s:Int),cU (kg u) n (x,j,s)=some Z∧fz 68 [0,4,5,14,15] [i,f,h,I6 u.1,I6 s] a∧I.le K∧St w0 w K [bd f x,bV h j] R) b4 ⟨_,u.2,X,0,c,fy z,lr,b⟩ ?_
 rintro f4 _ f5 ⟨K,x,j,s,c,⟨f6,rfl⟩,k,b⟩
 obtain ⟨f7,b5,rfl,c,M⟩:=aU c
 dsimp only [kg] at c
 replace J:=J.trans k
 refine ww (mb z (nt (aj (bw c z ?_ ?_))))
 {
 refine fun b6 c=>al (tn (aj (au (ww (mi z (mi z (nt (ww (mv (f) z (bk c fun p b7 c=>wc call98 [f,I6 8] z z z (kcI (aN b.to1 b7) fun f8 b=>mv (f) z (bk c fun q b8 c=>wc call98 [f,I6 8] z z z (kcI (aN b.to1 b8) fun f9 b=>mv (f) z (bk c fun g b9 c=>wc call161 [f] z z z ((rP b.to1 b9).mono ?_)))))))))))))))
 rintro _ g0 ⟨c1,y,A,rfl,c2,b⟩
 refine ⟨_,z,?_⟩
 replace b:=b.of3
 replace k:=k.trans c2
 refine wv (.agg #[U6 p.1,U6 q.1,I6 g.1.E,U6 g.1.ae,U6 g.1.Index,y,A]) z z (by obtain ⟨_,_,hv_,_⟩:=b.sv1; rw [hv_]; obtain ⟨_,_,hv_,_⟩:=b.sv0; rw [hv_]; kernel_rfl) ?_
 obtain ⟨N,g1,c3,c4,b⟩:=b.box [Zu,Zu,Zi,Zu,Zu,Zs,Zs] 242
 refine wa c3 c4 (bxk b z sI (oJ 5 z (oC (oS b.sv1) (oC (oS b.sv2) oN))) fun g2 b=>nt ?_)
 obtain ⟨g3,c,O⟩:=ee c
 refine cR (fun a w =>(lV j p q g s) ()=some b5∧fz 68 [0,4,5,7,14,15] [i,f,h,Pt N 0,I6 u.1,I6 s] a∧St w0 w c1 [bd f g.2,bV h j,cells N [U6 p.1,U6 q.1,I6 g.1.E,U6 g.1.ae,U6 g.1.Index,y,A],bp aK y g.1.dT,bp (eC aH) A g.1.aX] R) ?_ ?_
 {
 refine aj ?_
 obtain ⟨P,g4,rfl,c5⟩:=dJ b.bj
 have b:=c5
 replace b:=b.ah
 obtain ⟨g5,B,b⟩:=b.cz
 refine eU b mixed krA (qh _ (fun w b=>xF z fI z) (qh _ (fun w b=>xL z (b.bc2 z)) (qz (.bool _) z (qz (.bool _) z (bs c ?_ ?_)))))
 {
 intro m c
 cases c
}
 refine fun m c=>qgz (I6 _) m z (qgz (.bool _) m z (qgz (.bool _) m z (bs c ?_ ?_)))
 {
 refine fun d c=>qgz (Pt _ _) d z (qgz (Pt _ _) d z (qg _ d (fun w b=>xF z fI z) (qg _ d (fun w b=>xL z (b.bc1 z)) (qgz (I6 _) d z (qgz (I6 _) d z ?_)))))
 obtain ⟨g6,c6,c⟩:=bn c
 obtain ⟨c7,c8,c9⟩:=aV c6
 refine qg _ d (fun w b=>aJ z z uI sI (b.rsv 0 z B) c7 c8) (qg _ d (fun w b=>xG z fI z) ?_)
 obtain ⟨g7,d0,d1⟩:=bT.get B c9
 obtain ⟨g8,g9,rfl,h0,h1,-⟩:=d1
 refine qg _ d (fun w b=>xL z ((b.uy 0 z d0) 0 _ z)) (qg _ d (fun w b=>xF z fI z) (qg _ d (fun w b=>xL z (b.bc2 z)) (qgz (.bool _) d z (qg (.bool _) m (fun w b=>bi d z z) (qh (.bool _) (fun w b=>aL m z z) (hK ?_))))))
 intro w b
 replace b:=b.bo B
 refine tn (bw c z ?_ ?_)
 {
 intro d2 c
 cases c
}
 refine fun d2 c=>al (tn ?_)
 cases c
 exact ⟨O,fy z,(cQ (Pt P 0) j b.ah z).aA.aA.aA.aA.bj.oB⟩
}
 refine fun d c=>qo d (qo d (qo d (qo d (qo d (qo d (qo d (qo d (qo d (qo d (qo d (qo d (qg (.bool _) m (fun w b=>aL d z z) (qh (.bool _) (fun w b=>aL m z z) (hK ?_))))))))))))))
 intro w b
 replace b:=b.bo B
 refine tn (cJ z (al (tn ?_)))
 cases c
 exact ⟨O,fy z,(cQ (Pt P 0) j b.ah z).aA.aA.aA.aA.bj.oB⟩
}
 rintro _ h2 ⟨c,⟨h3,rfl⟩,b⟩
 dsimp only [lV] at c
 obtain ⟨d3,h4,rfl,d4⟩:=dJ b.ah
 have b:=d4
 refine rg b 11 [0,0,2,6,14,0,32,126,255,511,1023] [] mixed (sp 0 z z (sp 1 z z (sp 2 z z (sF 3 z z fI (sL 4 z z (·.bc0 z) (sh _ 5 z (fun w b=>xN z (b.ul 0 tz)) (e1 6 z z fun w b=>?_)))))))
 replace b:=b.bj
 obtain ⟨h5,d5,C,b⟩:=b.cO
 replace k:=k.trans d5
 replace b:=b.bj
 obtain ⟨h6,Q,S,b⟩:=b.cO
 replace C:=C.mono (ro_le Q)
 replace k:=k.trans Q
 obtain ⟨d6,d7,d8,d9,b⟩:=b.lits (E:=dF) (xs:=[({cV:=p.1,seq:=q.1,r:=g.1}:aZ)]) [[U6 p.1,U6 q.1,I6 g.1.E,U6 g.1.ae,U6 g.1.Index,y,A]] 242 1 z (bT.cons ⟨_,_,z,C,S,oS (ak C),oS (ak S)⟩ bT.nil)
 refine cj (v:=(.slice (some ⟨d6,0,none⟩) 1 1)) (w':=d7) z (dH krA d8 d9) (wn [4,3,2,1,0] b (pL z z (·.bc1 z) (pF z z fI (pz (pz (pz aT))))) (e1 7 z z fun w b=>?_))
 obtain ⟨e0,c⟩:=cF c
 replace b:=b.aD
 obtain ⟨T,e2,e3,b⟩:=bO AG underlying204 b b.iL (cP e0 z) 204
 refine cj (v:=T) (w':=e2) z (ck z z e3) (wn [0] b (pz aT) (sp 8 z z (sF 9 z z fI (e1 10 z z fun w b=>?_))))
 replace b:=b.aD
 refine b1e T b z (oS b.sv1) sI fun h7 b=>w0n b (bt ?_)
 refine fun w b=>bJ (tn (wrl (mi z (mi z (nt ?_)))))
 cases c
 exact ⟨_,nls,_,_,_,_,M,fy z,k,(cQ (Pt d3 0) (({l:=(j.l++([({cV:=p.1,seq:=q.1,r:=g.1}:aZ)]))}:bE)) b.ah.ah z).aD.cv⟩
}
 refine fun b6 c=>bH (aQ (aQ ?_))
 replace c:=bz c M
 refine cZ (tn ?_)
 cases c
 exact ⟨_,x,j,b0,fy z,J,b.ah.ah.cv⟩
}
 rintro _ h8 ⟨F,G,H,c,⟨h9,rfl⟩,U,b⟩
 dsimp only [oA] at c
 replace t:=t.mono (ro_le U)
 replace D:=D.trans U
 refine aj (ww (mv (f) z (bk c fun i0 e4 c=>wc call109 [f] z z z (kcI (iE b.to1 e4) fun i1 b=>mb z (mb z (bs c ?_ ?_))))))
 {
 intro o c
 cases c
}
 refine fun o c=>gv (h) o z ?_
 replace b:=aR b.ah
 obtain ⟨i2,e5,c⟩:=bn c
 refine dh ((av z z z (cvb o)).trans z) z (gO call115 z (vs:=[h]) z) (kdJ (qi b.to1 e5) fun e6 i3 b=>?_)
 replace b:=bQ b.ah
 refine gv (i) o z ?_
 replace b:=b.ah
 obtain ⟨i4,V,b⟩:=b.cz
 obtain ⟨i5,e7,c⟩:=bn c
 refine dh ((av z z z (cvb o)).trans z) z (gO call110 z (vs:=[e6,i]) z) (kcO (fv (b.jA V) (t.mono cS) b.to0 e7) fun i6 b=>?_)
 replace b:=b.bo V
 refine gb o z (mb (aL o z z) (nt (bw c z ?_ ?_)))
 {
 intro e8 c
 cases c
}
 refine fun e8 c=>al (tn (ww (mv (h) z (mv (h) z (mi z (nt (ar ?_)))))))
 cases c
 exact dI [h,Zi] z (rc z (rc z bl)) ⟨_,h,z,D,b.ah.bF⟩
}
theorem zd {a0:(List Int)} {g:Value} (D:Ro (cr .u8) I g a0) (b:St w0 w I [] R) {r:(cg×Int)} (c:qj a0=some r) :
  Calls prog 103 #[g] w fun e w'=>∃ (F:Value),e = .returned (.tuple #[F,I6 r.2])∧St w0 w' I [cH F r.1] R:=by {
 unfold qj at c
 refine c0 func103 z z (ww (mv (.pointer none) z (mi z (nt (ww (mv (g) z (bk c fun d5 K c=>wc call97 [g] z z z (kdI (nj D b.to0 K) fun d d6 b=>mv (d) z (nt (ww (bk c fun L M c=>wc call46 [] z z z (kdI (wi b.to0 M) fun f d7 b=>mv (f) z (nt ?_)))))))))))))
 obtain ⟨N,c,O⟩:=bn c
 refine cR (fun a w=>∃ (y:ag) (A:cg),(pu a0) (y,A)=some r∧fz 63 [0,4,5] [g,d,f] a∧St w0 w I [bd d y,cH f A] R) ?_ ?_
 {
 refine ww (mv (d) z (mv (d) z ?_))
 replace b:=b.ah
 obtain ⟨P,Q,c⟩:=bn c
 refine wc call105 [d] z z z (kcI (fl b.to1 Q) fun d8 b=>bk c fun B S c=>wc call104 [d,I6 P] z z z (kcI (dm b.to1 S) fun d9 b=>mi z (nt (au ?_))))
 obtain ⟨T,c⟩:=aS c
 refine bg (fun n a w=>∃ (t:ag) (m:cg) (C:Int),cU (kY B) n (t,m,C)=some N∧fz 63 [0,4,5,13,14] [g,d,f,I6 B.1,I6 C] a∧St w0 w I [bd d t,cH f m] R) T ⟨B.2,L,0,c,fy z,b⟩ ?_
 rintro e0 _ e2 ⟨t,m,C,c,⟨e3,rfl⟩,b⟩
 obtain ⟨e4,e5,rfl,c,G⟩:=aU c
 dsimp only [kY] at c
 refine ww (mb z (nt (aj (bw c z ?_ ?_))))
 {
 refine fun U c=>al (tn (aj (au (ww (mv (d) z (bk c fun o V c=>wc call98 [d,I6 8] z z z (kcI (aN b.to1 V) fun e6 b=>mv (d) z (bk c fun i W c=>wc call98 [d,I6 1] z z z (kcI (aN b.to1 W) fun e7 b=>mk (.int .i64 (i64.wrap i.1)) (mv (d) z (bk c fun j X c=>wc call98 [d,I6 1] z z z (kcI (aN b.to1 X) fun e8 b=>mk (.int .i64 (i64.wrap j.1)) (mv (d) z ?_)))))))))))))
 refine bk c fun Y Z c=>wc call98 [d,I6 8] z z z (kcI (aN b.to1 Z) fun e9 b=>bk c fun p b0 c=>wc call107 [U6 Y.1] z z z (kcO (fq b.to0 b0) fun f0 b=>mv (d) z ?_))
 refine bk c fun b1 b2 c=>wc call98 [d,I6 8] z z z (kcI (aN b.to1 b2) fun f1 b=>bk c fun q b3 c=>wc call107 [U6 b1.1] z z z (kcO (fq b.to0 b3) fun f2 b=>mv (d) z ?_))
 refine bk c fun s b4 c=>wc call98 [d,I6 8] z z z (kcI (aN b.to1 b4) fun f3 b=>mv (d) z (bk c fun k b5 c=>wc call98 [d,I6 4] z z z (kcI (aN b.to1 b5) fun f4 b=>mk (.int .i64 (i64.wrap k.1)) (mk (.agg #[U6 o.1,I6 (i64.wrap i.1),I6 (i64.wrap j.1),F6 p,F6 q,U6 s.1,I6 (i64.wrap k.1)]) (mv (d) z (bk c fun u b6 c=>wc call98 [d,I6 8] z z z (kcI (aN b.to1 b6) fun f5 b=>?_)))))))
 refine mv (d) z (bk c fun x b7 c=>wc call98 [d,I6 8] z z z (kcI (aN b.to1 b7) fun f6 b=>mk (.agg #[U6 o.1,I6 (i64.wrap i.1),I6 (i64.wrap j.1),F6 p,F6 q,U6 s.1,I6 (i64.wrap k.1),U6 u.1,U6 x.1]) ?_))
 obtain ⟨f7,f8,b8,b9,b⟩:=b.box [Zu,Zi,Zi,Zf,Zf,Zu,Zi,Zu,Zu] 224
 refine wa b8 b9 (bxk b z sI (oJ 9 z oN) fun f9 b=>nt ?_)
 obtain ⟨c1,g0,rfl,c2⟩:=eF b.aD
 have b:=c2
 refine rg b 11 [0,0,2,6,14,0,32,126,255,511,1023] [] mixed (sp 0 z z (sp 1 z z (sp 2 z z (sF 3 z z fI (sL 4 z z (·.bc0 z) (sh _ 5 z (fun w b=>xN z (b.ta 0 tz)) (e1 6 z z fun w b=>?_)))))))
 obtain ⟨c3,c4,c5,c6,b⟩:=b.lits (E:=jR) (xs:=[({r:=({ID:=o.1,dn:=(i64.wrap i.1),To:=(i64.wrap j.1),Lo:=p,Hi:=q,Authority:=s.1,cx:=(i64.wrap k.1)}:dV),from_:=u.1,to_:=x.1}:dj)]) [[U6 o.1,I6 (i64.wrap i.1),I6 (i64.wrap j.1),F6 p,F6 q,U6 s.1,I6 (i64.wrap k.1),U6 u.1,U6 x.1]] 224 1 z (bT.cons z bT.nil)
 refine cj (v:=(.slice (some ⟨c3,0,none⟩) 1 1)) (w':=c4) z (dH krA c5 c6) (wn [4,3,2,1,0] b (pL z z (·.bc1 z) (pF z z fI (pz (pz (pz aT))))) (e1 7 z z fun w b=>?_))
 obtain ⟨c7,c⟩:=cF c
 replace b:=b.aD
 obtain ⟨H,c8,c9,b⟩:=bO DZ underlying207 b b.iL (cP c7 z) 207
 refine cj (v:=H) (w':=c8) z (ck z z c9) (wn [0] b (pz aT) (sp 8 z z (sF 9 z z fI (e1 10 z z fun w b=>?_))))
 replace b:=b.aD
 refine b1e H b z (oS b.sv1) sI fun g1 b=>w0n b (bt ?_)
 refine fun w b=>bJ (tn (wrl (mi z (mi z (nt ?_)))))
 cases c
 exact ⟨_,nls,_,_,_,G,fy z,(dk (Pt c1 0) (({l:=(m.l++([({r:=({ID:=o.1,dn:=(i64.wrap i.1),To:=(i64.wrap j.1),Lo:=p,Hi:=q,Authority:=s.1,cx:=(i64.wrap k.1)}:dV),from_:=u.1,to_:=x.1}:dj)]))}:cg)) b.ah.ah z).aA.cv⟩
}
 refine fun U c=>bH (aQ (aQ ?_))
 replace c:=bz c G
 refine cZ (tn ?_)
 cases c
 exact ⟨t,m,O,fy z,b.ah.ah.cv⟩
}
 rintro _ g2 ⟨y,A,c,⟨g3,rfl⟩,b⟩
 dsimp only [pu] at c
 refine aj (ww (mv (d) z (bk c fun g4 d0 c=>wc call109 [d] z z z (kcI (iE b.to1 d0) fun g5 b=>mb z (mb z (bs c ?_ ?_))))))
 {
 intro h c
 cases c
}
 refine fun h c=>gv (f) h z ?_
 replace b:=aR b.ah
 obtain ⟨g6,d1,c⟩:=bn c
 refine dh ((av z z z (cvb h)).trans z) z (gO call116 z (vs:=[f]) z) (kdJ (qU b.to1 d1) fun d2 g7 b=>?_)
 replace b:=bQ b.ah
 refine gv (g) h z ?_
 replace b:=b.ah
 obtain ⟨g8,J,b⟩:=b.cz
 obtain ⟨g9,d3,c⟩:=bn c
 refine dh ((av z z z (cvb h)).trans z) z (gO call110 z (vs:=[d2,g]) z) (kcO (fv (b.jA J) (D.mono cS) b.to0 d3) fun h0 b=>?_)
 replace b:=b.bo J
 refine gb h z (mb (aL h z z) (nt (bw c z ?_ ?_)))
 {
 intro d4 c
 cases c
}
 refine fun d4 c=>al (tn (ww (mv (f) z (mv (f) z (mi z (nt (ar ?_)))))))
 cases c
 exact dI [f,Zi] z (rc z (rc z bl)) ⟨f,z,b.ah.bF⟩
}
theorem qO {a0:ag} {p0:Value} (b:St w0 w I [bd p0 a0] R) {r:((List bK)×ag)} (c:iy a0=some r) :
  Calls prog 164 #[p0] w fun e w'=>∃ (I':HL) (q:Value),e = .returned (q)∧I.le I'∧St w0 w' I' [bp cG q r.1,bd p0 r.2] R:=by {
 unfold iy at c
 refine c0 func164 z z ?_
 have j:=HL.le.refl I
 refine ww (mv ((.slice none 0 0)) z (nt (ww (mv ((.slice none 0 0)) z (nt (aj (ww (mv (p0) z (bk c fun k y c=>wc call104 [p0,I6 32] z z z (kcI (dm b.to1 y) fun S b=>mi z (nt (au ?_))))))))))))
 replace b:=b.ba cG
 obtain ⟨A,c⟩:=aS c
 refine bg (fun n a w=>∃ (l:HL) (m:ag) (f:(List bK)) (o:Int) (d:Value),cU (fW k) n (m,f,o)=some r∧fz 21 [0,3,5,6] [p0,d,I6 k.1,I6 o] a∧I.le l∧St w0 w l [bp cG d f,bd p0 m] R) A ⟨_,k.2,[],0,Zs,c,fy z,lr,b⟩ ?_
 rintro T _ U ⟨l,m,f,o,d,c,⟨V,rfl⟩,g,b⟩
 obtain ⟨W,X,rfl,c,s⟩:=aU c
 dsimp only [fW] at c
 replace j:=j.trans g
 refine ww (mb z (nt (aj (bw c z ?_ ?_))))
 {
 refine fun B c=>al (tn (aj (au (wrl (mv (d) z (mv (p0) z ?_))))))
 replace b:=b.ah
 obtain ⟨C,D,c⟩:=bn c
 refine wc call98 [p0,I6 8] z z z (kcI (aN b.to1 D) fun Y b=>bk c fun h F c=>wc call107 [U6 C.1] z z z (kcO (fq b.to0 F) fun Z b=>mv (p0) z (bk c fun i G c=>wc call108 [p0] z z z (kcI (lE b.to1 G) fun b0 b=>mv (p0) z (bk c fun t H c=>wc call100 [p0,I6 256] z z z (kdJ (ef b.to1 H) fun u b1 b=>wv (.agg #[F6 h,.bool i.1,u]) z z (by obtain ⟨_,_,hv_,_⟩:=b.sv0; rw [hv_]; kernel_rfl) ?_))))))
 obtain ⟨b2,J,x,b⟩:=b.cO
 replace g:=g.trans J
 obtain ⟨K,L,M,N,b⟩:=b.lits (E:=cG) (xs:=[({At:=h,Del:=i.1,Val:=t.1}:bK)]) [[F6 h,.bool i.1,u]] 41 1 z (bT.cons ⟨_,z,x,oS (ak x)⟩ bT.nil)
 refine cK (v:=(.slice (some ⟨K,0,none⟩) 1 1)) (w':=L) z z (dH krA M N) ?_
 obtain ⟨O,c⟩:=cF c
 replace b:=b.aD
 obtain ⟨p,P,Q,b⟩:=bO Gx underlying42 b b.iL (cP O z) 42
 refine cK (v:=p) (w':=P) z z (ck z z Q) (mv (p) z (dv (bJ (tn (wrl (mi z (mi z (nt ?_))))))))
 cases c
 exact ⟨_,nls,_,_,(f++([({At:=h,Del:=i.1,Val:=t.1}:bK)])),_,p,s,fy z,g,b.aD.ah.cv⟩
}
 refine fun B c=>bH (aQ (aQ ?_))
 replace c:=bz c s
 refine cZ (tn (ww (mv (d) z (mv (d) z (nt (ar ?_))))))
 cases c
 exact dI [d] z (rc z bl) ⟨_,d,z,j,b.ah.ah.cv⟩
}
theorem yv {a0:(List Int)} {k:Value} (H:Ro (cr .u8) I k a0) (b:St w0 w I [] R) {r:(aG×Int)} (c:oP a0=some r) :
  Calls prog 106 #[k] w fun e w'=>∃ (I':HL) (c3:Value) (c4:Value) (c5:Value) (c6:Value) (c7:Value) (c8:Value) (c9:Value) (d0:Value),e = .returned (.tuple #[.agg #[U1 r.1.Kind,U6 r.1.ID.ab,U6 r.1.ID.Seq,U6 r.1.ae,U6 r.1.Index,I6 r.1.E,U6 r.1.br.ID.ab,U6 r.1.br.ID.Seq,U6 r.1.br.ae,c3,c4,c5,c6,c7,I6 r.1.R.E,U6 r.1.R.ae,U6 r.1.R.Index,c8,c9,U6 r.1.bY,d0,U6 r.1.ap.ID,I6 r.1.ap.dn,I6 r.1.ap.To,F6 r.1.ap.Lo,F6 r.1.ap.Hi,U6 r.1.ap.Authority,I6 r.1.ap.cx,.bool r.1.On],I6 r.2])∧I.le I'∧St w0 w' I' [bp cp c3 r.1.br.dO,bp fU c4 r.1.br.aX,bp cp c5 r.1.br.dD,bp (cr .u8) c6 r.1.br.Data,bp cG c7 r.1.cw,bp aK c8 r.1.R.dT,bp (eC aH) c9 r.1.R.aX,bp cN d0 r.1.dM] R:=by {
 unfold oP at c
 refine c0 func106 z z ?_
 have P:=HL.le.refl I
 refine ww ?_
 obtain ⟨j,n5,g2,g3,b⟩:=b.box [Zb,Zu,Zu,Zu,Zu,Zi,Zu,Zu,Zu,Zs,Zs,Zs,Zs,Zs,Zi,Zu,Zu,Zs,Zs,Zu,Zs,Zu,Zi,Zi,Zf,Zf,Zu,Zi,.bool false] 49
 refine wa g2 g3 (mi z (nt (ww (mv (k) z (bk c fun g4 g5 c=>wc call97 [k] z z z (kdI (nj H b.to0 g5) fun n6 n7 b=>?_))))))
 obtain ⟨g,n8,g6,g7,b⟩:=b.box [.pointer none] 171
 refine wa g6 g7 ?_
 obtain ⟨f,n9,⟨rfl,g8⟩,g9⟩:=ff b.ah
 have b:=g9
 replace b:=b.ah
 refine byk (Pt f 0) b z sI (oC z oN) fun o0 b=>nt (ww (mL z (b.bc0 z) ?_))
 replace b:=eX (Pt f 0) g4 b.ah ⟨z,g8⟩
 obtain ⟨l,h0,c⟩:=bn c
 refine wc call98 [Pt f 0,I6 1] z z z (kcI (aN b.to1 h0) fun o1 b=>mk (.int .u8 (u8.wrap l.1)) (mk (.agg #[U1 (u8.wrap l.1),Zu,Zu,Zu,Zu,Zi,Zu,Zu,Zu,Zs,Zs,Zs,Zs,Zs,Zi,Zu,Zu,Zs,Zs,Zu,Zs,Zu,Zi,Zi,Zf,Zf,Zu,Zi,.bool false]) ?_))
 obtain ⟨h,o2,h1,h2,b⟩:=b.box [Zb,Zu,Zu,Zu,Zu,Zi,Zu,Zu,Zu,Zs,Zs,Zs,Zs,Zs,Zi,Zu,Zu,Zs,Zs,Zu,Zs,Zu,Zi,Zi,Zf,Zf,Zu,Zi,.bool false] 49
 refine wa h1 h2 (bxk b z sI (oJ 29 z oN) fun o3 b=>nt (ww (mk (.func (.func 163) #[] #[Pt g 0,Pt h 0]) (mv (.func (.func 163) #[] #[Pt g 0,Pt h 0]) z (nt ?_)))))
 obtain ⟨h3,c,D⟩:=ee c
 refine cR (fun a w=>∃ (Q:HL) (S:ag) (d:aG) (o:Value) (p:Value) (q:Value) (s:Value) (t:Value) (u:Value) (x:Value) (y:Value),(oF a0) (S,d)=some r∧fz 113 [0,2,4,5] [k,Pt j 0,Pt g 0,Pt h 0] a∧I.le Q∧St w0 w Q [cells j [Zb,Zu,Zu,Zu,Zu,Zi,Zu,Zu,Zu,Zs,Zs,Zs,Zs,Zs,Zi,Zu,Zu,Zs,Zs,Zu,Zs,Zu,Zi,Zi,Zf,Zf,Zu,Zi,.bool false],cells g [Pt f 0],bd (Pt f 0) S,cells h [U1 d.Kind,U6 d.ID.ab,U6 d.ID.Seq,U6 d.ae,U6 d.Index,I6 d.E,U6 d.br.ID.ab,U6 d.br.ID.Seq,U6 d.br.ae,o,p,q,s,t,I6 d.R.E,U6 d.R.ae,U6 d.R.Index,u,x,U6 d.bY,y,U6 d.ap.ID,I6 d.ap.dn,I6 d.ap.To,F6 d.ap.Lo,F6 d.ap.Hi,U6 d.ap.Authority,I6 d.ap.cx,.bool d.On],bp cp o d.br.dO,bp fU p d.br.aX,bp cp q d.br.dD,bp (cr .u8) s d.br.Data,bp cG t d.cw,bp aK u d.R.dT,bp (eC aH) x d.R.aX,bp cN y d.dM] R) ?_ ?_
 {
 have i:=HL.le.refl I
 refine ww (mF z fI (mL z (b.bc0 z) (nt (au (ww (mb z (mb z (nt (bw c z ?_ ?_)))))))))
 {
 refine fun h4 c=>wrl (mL z (b.bc2 z) ?_)
 replace b:=b.ah
 obtain ⟨h5,h6,c⟩:=bn c
 refine wc call98 [Pt f 0,I6 8] z z z (kcI (aN b.to1 h6) fun o4 b=>mF z fI ?_)
 replace b:=b.ah
 refine byk (U6 h5.1) b z sI (oC z oN) fun o5 b=>dv (bJ (tn ?_))
 cases c
 exact ⟨_,_,_,Zs,Zs,Zs,Zs,Zs,Zs,Zs,Zs,D,fy z,i,((((((((b.ba cp).ba fU).ba cp).ba (cr .u8)).ba cG).ba aK).ba (eC aH)).ba cN).ah.aD.aA.bj.bq.de.aW.bM.ca.bR.kA.wW⟩
}
 refine fun h4 c=>ww (mb z (mb z (nt (bw c z ?_ ?_))))
 {
 refine fun h7 c=>wrl (mL z (b.bc2 z) ?_)
 replace b:=b.ah
 obtain ⟨T,h8,c⟩:=bn c
 refine wc call159 [Pt f 0] z z z ((wG b.to1 h8).mono ?_)
 rintro _ o6 ⟨d1,d2,d3,d4,rfl,b⟩
 refine ⟨_,z,?_⟩
 replace b:=b.of5
 refine mF z fI ?_
 replace b:=b.bq
 refine byk (.agg #[U6 T.1.ID.ab,U6 T.1.ID.Seq,U6 T.1.ae,d1,d2,d3,d4]) b z sI (oJ 3 z (oC (oS b.sv1) (oC (oS b.sv2) (oC (oS b.sv3) (oC (oS b.sv4) oN))))) fun o7 b=>dv (bJ (tn ?_))
 cases c
 exact ⟨_,_,_,d1,d2,d3,d4,Zs,Zs,Zs,Zs,D,fy z,i,((((b.ba cG).ba aK).ba (eC aH)).ba cN).ah.aD.aA.bM.bM.bM.bM.bM.ca.bR.kA.wW⟩
}
 refine fun h7 c=>ww (mb z (mb z (nt (bw c z ?_ ?_))))
 {
 refine fun h9 c=>ww (mv (.func (.func 163) #[] #[Pt g 0,Pt h 0]) z (bk c fun i0 i1 c=>dh z z (er call163 (caps:=[Pt g 0,Pt h 0]) z (vs:=[]) z) (Calls.mono (show Calls prog 163 #[Pt g 0,Pt h 0] _ (fun e w'=>∃ (U:ag) (V:Int) (W:Int),(U,V,W)=i0∧e = .returned (.tuple #[])∧St w0 w' I [cells j [Zb,Zu,Zu,Zu,Zu,Zi,Zu,Zu,Zu,Zs,Zs,Zs,Zs,Zs,Zi,Zu,Zu,Zs,Zs,Zu,Zs,Zu,Zi,Zi,Zf,Zf,Zu,Zi,.bool false],bd (Pt f 0) U,cells g [Pt f 0],cells h [U1 (u8.wrap l.1),U6 V,U6 W,Zu,Zu,Zi,Zu,Zu,Zu,Zs,Zs,Zs,Zs,Zs,Zi,Zu,Zu,Zs,Zs,Zu,Zs,Zu,Zi,Zi,Zf,Zf,Zu,Zi,.bool false]] R) from ?_) ?_)))
 {
 clear c; have c:=i1
 refine c0 func163 z z (rg b 7 [0,1,0,7,15,31,63] [] mixed (sL 0 z z (·.bc2 z) (sL 2 z z (·.bc2 z) (e1 1 z z fun w b=>?_))))
 replace b:=b.ah
 obtain ⟨d5,i2,c⟩:=bn c
 refine wec call98 [Pt f 0,I6 8] z z (kcI (aN b.to1 i2) fun o8 b=>wn [2] b (pL z z (·.bc2 z) aT) (e1 3 z z fun w b=>bk c fun d6 i3 c=>wec call98 [Pt f 0,I6 8] z z (kcI (aN b.to1 i3) fun o9 b=>w0n b (sk (.agg #[U6 d5.1,U6 d6.1]) 4 z (sF 5 z z fI (e1 6 z z fun w b=>?_))))))
 replace b:=b.ah
 refine bye (.agg #[U6 d5.1,U6 d6.1]) b z sI (oC z (oC z oN)) fun q0 b=>w0n b (bt ?_)
 refine fun w b=>mj (vs:=[]) z bl ?_
 cases c
 exact ⟨_,_,_,z,z,b.aD.aD.aA.eQ⟩
}
 rintro _ q1 ⟨U,V,W,rfl,rfl,b⟩
 refine ⟨_,z,?_⟩
 try dsimp only at c
 refine nt (aj (rg b 13 [0,1,3,0,11,0,59,7,255,511,1023,2047,4095] [] mixed (sL 0 z z (·.bc2 z) (sL 3 z z (·.bc2 z) (sL 5 z z (·.bc2 z) (e1 1 z z fun w b=>?_))))))
 replace b:=b.ah
 obtain ⟨d7,i4,c⟩:=bn c
 refine wec call98 [Pt f 0,I6 1] z z (kcI (aN b.to1 i4) fun q2 b=>wn [5,3] b (pL z z (·.bc2 z) (pL z z (·.bc2 z) aT)) (sk (.int .i64 (i64.wrap d7.1)) 2 z (sF 7 z z fI (e1 4 z z fun w b=>bk c fun i5 i6 c=>wec call98 [Pt f 0,I6 8] z z (kcI (aN b.to1 i6) fun q3 b=>wn [7,2,5] b (pF z z fI (pkr z z (fun w b=>by kernel_rfl) (pL z z (·.bc2 z) aT))) ?_)))))
 refine e1 6 z z fun w b=>bk c fun i7 i8 c=>wec call98 [Pt f 0,I6 8] z z (kcI (aN b.to1 i8) fun q4 b=>wn [7,2] b (pF z z fI (pkr z z (fun w b=>by kernel_rfl) aT)) ?_)
 refine e1 8 z z fun w b=>?_
 replace b:=b.aA
 refine bye (I6 (i64.wrap d7.1)) b z sI (oC z oN) fun q5 b=>w0n b (sF 9 z z fI (e1 10 z z fun w b=>bye (U6 i5.1) b z sI (oC z oN) fun q6 b=>w0n b (sF 11 z z fI (e1 12 z z fun w b=>bye (U6 i7.1) b z sI (oC z oN) fun q7 b=>w0n b (bt ?_)))))
 refine fun w b=>tn (wrl (mL z (b.bc3 z) ?_))
 replace b:=b.ah
 obtain ⟨q8,i9,c⟩:=bn c
 refine wc call164 [Pt f 0] z z z ((qO b.to1 i9).mono ?_)
 rintro _ q9 ⟨s0,d8,rfl,j0,b⟩
 refine ⟨_,z,?_⟩
 replace b:=b.of2
 replace i:=i.trans j0
 refine mF z fI ?_
 replace b:=b.aD
 refine b1k d8 b z (oS b.sv1) sI fun s1 b=>dv (bJ (tn ?_))
 cases c
 exact ⟨_,_,_,Zs,Zs,Zs,Zs,d8,Zs,Zs,Zs,D,fy z,i,(((((((b.ba cp).ba fU).ba cp).ba (cr .u8)).ba aK).ba (eC aH)).ba cN).ah.aD.bM.bj.bq.de.aW.bM.ca.kA.kA.wW⟩
}
 refine fun h9 c=>ww (mb z (mb z (nt (bw c z ?_ ?_))))
 {
 refine fun j1 c=>ww (mv (.func (.func 163) #[] #[Pt g 0,Pt h 0]) z (bk c fun j2 j3 c=>dh z z (er call163 (caps:=[Pt g 0,Pt h 0]) z (vs:=[]) z) (Calls.mono (show Calls prog 163 #[Pt g 0,Pt h 0] _ (fun e w'=>∃ (X:ag) (A:Int) (B:Int),(X,A,B)=j2∧e = .returned (.tuple #[])∧St w0 w' I [cells j [Zb,Zu,Zu,Zu,Zu,Zi,Zu,Zu,Zu,Zs,Zs,Zs,Zs,Zs,Zi,Zu,Zu,Zs,Zs,Zu,Zs,Zu,Zi,Zi,Zf,Zf,Zu,Zi,.bool false],bd (Pt f 0) X,cells g [Pt f 0],cells h [U1 (u8.wrap l.1),U6 A,U6 B,Zu,Zu,Zi,Zu,Zu,Zu,Zs,Zs,Zs,Zs,Zs,Zi,Zu,Zu,Zs,Zs,Zu,Zs,Zu,Zi,Zi,Zf,Zf,Zu,Zi,.bool false]] R) from ?_) ?_)))
 {
 clear c; have c:=j3
 refine c0 func163 z z (rg b 7 [0,1,0,7,15,31,63] [] mixed (sL 0 z z (·.bc2 z) (sL 2 z z (·.bc2 z) (e1 1 z z fun w b=>?_))))
 replace b:=b.ah
 obtain ⟨d9,j4,c⟩:=bn c
 refine wec call98 [Pt f 0,I6 8] z z (kcI (aN b.to1 j4) fun s2 b=>wn [2] b (pL z z (·.bc2 z) aT) (e1 3 z z fun w b=>bk c fun e0 j5 c=>wec call98 [Pt f 0,I6 8] z z (kcI (aN b.to1 j5) fun s3 b=>w0n b (sk (.agg #[U6 d9.1,U6 e0.1]) 4 z (sF 5 z z fI (e1 6 z z fun w b=>?_))))))
 replace b:=b.ah
 refine bye (.agg #[U6 d9.1,U6 e0.1]) b z sI (oC z (oC z oN)) fun s4 b=>w0n b (bt ?_)
 refine fun w b=>mj (vs:=[]) z bl ?_
 cases c
 exact ⟨_,_,_,z,z,b.aD.aD.aA.eQ⟩
}
 rintro _ s5 ⟨X,A,B,rfl,rfl,b⟩
 refine ⟨_,z,?_⟩
 try dsimp only at c
 refine nt (aj (rg b 8 [0,1,0,7,3,31,63,127] [] mixed (sL 0 z z (·.bc2 z) (sL 2 z z (·.bc2 z) (e1 1 z z fun w b=>?_)))))
 replace b:=b.ah
 obtain ⟨J,j6,c⟩:=bn c
 refine wec call98 [Pt f 0,I6 8] z z (kcI (aN b.to1 j6) fun s6 b=>wn [2] b (pL z z (·.bc2 z) aT) (sF 4 z z fI (e1 3 z z fun w b=>bk c fun K j7 c=>wec call98 [Pt f 0,I6 2] z z (kcI (aN b.to1 j7) fun s7 b=>wn [4] b (pF z z fI aT) (e1 5 z z fun w b=>?_)))))
 replace b:=b.aA
 refine bye (U6 J.1) b z sI (oC z oN) fun s8 b=>w0n b (sF 6 z z fI (e1 7 z z fun w b=>bye (U6 K.1) b z sI (oC z oN) fun s9 b=>w0n b (bt ?_)))
 refine fun w b=>tn ?_
 obtain ⟨j8,c,j9⟩:=bn c
 refine cR (fun a w=>∃ (Y:HL) (Z:ag) (b0:(List dN)) (L:Value),(oE l A B J K) (Z,b0)=some h3∧fz 113 [0,2,4,5] [k,Pt j 0,Pt g 0,Pt h 0] a∧I.le Y∧St w0 w Y [cells j [Zb,Zu,Zu,Zu,Zu,Zi,Zu,Zu,Zu,Zs,Zs,Zs,Zs,Zs,Zi,Zu,Zu,Zs,Zs,Zu,Zs,Zu,Zi,Zi,Zf,Zf,Zu,Zi,.bool false],cells g [Pt f 0],bd (Pt f 0) Z,cells h [U1 (u8.wrap l.1),U6 A,U6 B,U6 J.1,Zu,Zi,Zu,Zu,Zu,Zs,Zs,Zs,Zs,Zs,Zi,Zu,Zu,Zs,Zs,U6 K.1,L,Zu,Zi,Zi,Zf,Zf,Zu,Zi,.bool false],bp cN L b0] R) ?_ ?_
 {
 have b1:=HL.le.refl I
 refine ww (mL z (b.bc3 z) ?_)
 replace b:=b.ah
 obtain ⟨b2,k0,c⟩:=bn c
 refine wc call104 [Pt f 0,I6 8] z z z (kcI (dm b.to1 k0) fun t0 b=>mi z (nt (au ?_)))
 replace b:=b.ba cN
 obtain ⟨k1,c⟩:=aS c
 refine bg (fun n a w=>∃ (b3:HL) (F:(List dN)) (M:ag) (b4:Int) (N:Value),cU (fZ b2) n (F,M,b4)=some j8∧fz 113 [0,2,4,5,55,56] [k,Pt j 0,Pt g 0,Pt h 0,I6 b2.1,I6 b4] a∧I.le b3∧St w0 w b3 [bp cN N F,bd (Pt f 0) M,cells h [U1 (u8.wrap l.1),U6 A,U6 B,U6 J.1,Zu,Zi,Zu,Zu,Zu,Zs,Zs,Zs,Zs,Zs,Zi,Zu,Zu,Zs,Zs,U6 K.1,N,Zu,Zi,Zi,Zf,Zf,Zu,Zi,.bool false],cells j [Zb,Zu,Zu,Zu,Zu,Zi,Zu,Zu,Zu,Zs,Zs,Zs,Zs,Zs,Zi,Zu,Zu,Zs,Zs,Zu,Zs,Zu,Zi,Zi,Zf,Zf,Zu,Zi,.bool false],cells g [Pt f 0]] R) k1 ⟨_,[],b2.2,0,Zs,c,fy z,lr,b⟩ ?_
 rintro t1 _ t2 ⟨b3,F,M,b4,N,c,⟨t3,rfl⟩,C,b⟩
 obtain ⟨t4,t5,rfl,c,e2⟩:=aU c
 dsimp only [fZ] at c
 replace b1:=b1.trans C
 refine ww (mb z (nt (aj (bw c z ?_ ?_))))
 {
 refine fun k2 c=>al (tn (aj (au (rg b 12 [0,1,0,4,12,0,44,124,252,511,1023,2047] [] mixed (sF 0 z z fI (sL 1 z z (·.bc2 z) (sL 2 z z (·.bc4 z) (sL 5 z z (·.bc4 z) (e1 3 z z fun w b=>?_)))))))))
 replace b:=b.ah
 obtain ⟨G,k3,c⟩:=bn c
 refine wec call98 [Pt f 0,I6 1] z z (kcI (aN b.to1 k3) fun t6 b=>wn [5,1,0] b (pL z z (·.bc4 z) (pL z z (·.bc2 z) (pF z z fI aT))) (sk (.int .i64 (i64.wrap G.1)) 4 z (e1 6 z z fun w b=>bk c fun e3 k4 c=>wec call164 [Pt f 0] z z ((qO b.to1 k4).mono ?_))))
 rintro _ t7 ⟨t8,e4,rfl,k5,b⟩
 refine ⟨_,z,?_⟩
 replace b:=b.of2
 replace C:=C.trans k5
 refine wn [4,1,0] b (pkr z z (fun w b=>by kernel_rfl) (pL z z (·.bc3 z) (pF z z fI aT))) (wsr (.agg #[I6 (i64.wrap G.1),e4]) 7 rfl rfl rfl krA (fun w b=>by obtain ⟨_,_,hv_,_⟩:=b.sv0; rw [hv_]; kernel_rfl) (e1 8 z z fun w b=>?_))
 obtain ⟨t9,k6,e5,b⟩:=b.cO
 replace C:=C.trans k6
 obtain ⟨k7,k8,k9,l0,b⟩:=b.lits (E:=cN) (xs:=[({oD:=(i64.wrap G.1),cw:=e3.1}:dN)]) [[I6 (i64.wrap G.1),e4]] 156 1 z (bT.cons ⟨_,z,e5,oS (ak e5)⟩ bT.nil)
 refine cj (v:=(.slice (some ⟨k7,0,none⟩) 1 1)) (w':=k8) z (dH krA k9 l0) (wn [1,0] b (pL z z (·.bc3 z) (pF z z fI aT)) (e1 9 z z fun w b=>?_))
 obtain ⟨l1,c⟩:=cF c
 replace b:=b.aD
 obtain ⟨b5,l2,l3,b⟩:=bO Cw underlying47 b b.iL (cP l1 z) 47
 refine cj (v:=b5) (w':=l2) z (ck z z l3) (w0n b (sF 10 z z fI (e1 11 z z fun w b=>?_)))
 replace b:=b.aA
 refine b1e b5 b z (oS b.sv1) sI fun u0 b=>w0n b (bt ?_)
 refine fun w b=>bJ (tn (wrl (mi z (mi z (nt ?_)))))
 cases c
 exact ⟨_,nls,_,(F++([({oD:=(i64.wrap G.1),cw:=e3.1}:dN)])),_,_,b5,e2,fy z,C,b.bq.bq.aD.bq.bj.oB⟩
}
 refine fun k2 c=>bH (aQ (aQ ?_))
 replace c:=bz c e2
 refine cZ (tn ?_)
 cases c
 exact ⟨_,M,F,N,j9,fy z,b1,b.aD.aD.bj.bj.oB⟩
}
 rintro _ u1 ⟨Y,Z,b0,L,c,⟨u2,rfl⟩,l4,b⟩
 dsimp only [oE] at c
 replace i:=i.trans l4
 refine wrl (mL z (b.bc1 z) ?_)
 replace b:=b.aD
 obtain ⟨b6,l5,c⟩:=bn c
 refine wc call161 [Pt f 0] z z z ((rP b.to1 l5).mono ?_)
 rintro _ u3 ⟨u4,e6,e7,rfl,l6,b⟩
 refine ⟨_,z,?_⟩
 replace b:=b.of3
 replace i:=i.trans l6
 refine mF z fI ?_
 replace b:=b.bq
 refine byk (.agg #[I6 b6.1.E,U6 b6.1.ae,U6 b6.1.Index,e6,e7]) b z sI (oJ 3 z (oC (oS b.sv1) (oC (oS b.sv2) oN))) fun u5 b=>dv (bJ (tn ?_))
 cases c
 exact ⟨_,_,_,Zs,Zs,Zs,Zs,Zs,e6,e7,L,D,fy z,i,(((((b.ba cp).ba fU).ba cp).ba (cr .u8)).ba cG).kA.bM.bM.aA.bj.bq.de.aW.bM.ca.kA.kA.wW⟩
}
 refine fun j1 c=>ww (mb z (mb z (nt (bw c z ?_ ?_))))
 {
 refine fun l7 c=>wrl (mv (.func (.func 163) #[] #[Pt g 0,Pt h 0]) z (bk c fun l8 l9 c=>dh z z (er call163 (caps:=[Pt g 0,Pt h 0]) z (vs:=[]) z) (Calls.mono (show Calls prog 163 #[Pt g 0,Pt h 0] _ (fun e w'=>∃ (O:ag) (b7:Int) (b8:Int),(O,b7,b8)=l8∧e = .returned (.tuple #[])∧St w0 w' I [cells j [Zb,Zu,Zu,Zu,Zu,Zi,Zu,Zu,Zu,Zs,Zs,Zs,Zs,Zs,Zi,Zu,Zu,Zs,Zs,Zu,Zs,Zu,Zi,Zi,Zf,Zf,Zu,Zi,.bool false],bd (Pt f 0) O,cells g [Pt f 0],cells h [U1 (u8.wrap l.1),U6 b7,U6 b8,Zu,Zu,Zi,Zu,Zu,Zu,Zs,Zs,Zs,Zs,Zs,Zi,Zu,Zu,Zs,Zs,Zu,Zs,Zu,Zi,Zi,Zf,Zf,Zu,Zi,.bool false]] R) from ?_) ?_)))
 {
 clear c; have c:=l9
 refine c0 func163 z z (rg b 7 [0,1,0,7,15,31,63] [] mixed (sL 0 z z (·.bc2 z) (sL 2 z z (·.bc2 z) (e1 1 z z fun w b=>?_))))
 replace b:=b.ah
 obtain ⟨e8,m0,c⟩:=bn c
 refine wec call98 [Pt f 0,I6 8] z z (kcI (aN b.to1 m0) fun u6 b=>wn [2] b (pL z z (·.bc2 z) aT) (e1 3 z z fun w b=>bk c fun e9 m1 c=>wec call98 [Pt f 0,I6 8] z z (kcI (aN b.to1 m1) fun u7 b=>w0n b (sk (.agg #[U6 e8.1,U6 e9.1]) 4 z (sF 5 z z fI (e1 6 z z fun w b=>?_))))))
 replace b:=b.ah
 refine bye (.agg #[U6 e8.1,U6 e9.1]) b z sI (oC z (oC z oN)) fun u9 b=>w0n b (bt ?_)
 refine fun w b=>mj (vs:=[]) z bl ?_
 cases c
 exact ⟨_,_,_,z,z,b.aD.aD.aA.eQ⟩
}
 rintro _ v0 ⟨O,b7,b8,rfl,rfl,b⟩
 refine ⟨_,z,?_⟩
 try dsimp only at c
 refine dv (bJ (tn ?_))
 cases c
 exact ⟨_,O,_,Zs,Zs,Zs,Zs,Zs,Zs,Zs,Zs,D,fy z,i,((((((((b.ba cp).ba fU).ba cp).ba (cr .u8)).ba cG).ba aK).ba (eC aH)).ba cN).ah.aD.aA.bj.bq.de.aW.kA.bR.kA.kA.wW⟩
}
 refine fun l7 c=>ww (mb z (mb z (nt (bw c z ?_ ?_))))
 {
 intro m2 c
 cases c
}
 refine fun m2 c=>ww (mb z (mb z (nt (bw c z ?_ ?_))))
 {
 refine fun m3 c=>ww (mv (.func (.func 163) #[] #[Pt g 0,Pt h 0]) z (bk c fun m4 m5 c=>dh z z (er call163 (caps:=[Pt g 0,Pt h 0]) z (vs:=[]) z) (Calls.mono (show Calls prog 163 #[Pt g 0,Pt h 0] _ (fun e w'=>∃ (b9:ag) (c1:Int) (c2:Int),(b9,c1,c2)=m4∧e = .returned (.tuple #[])∧St w0 w' I [cells j [Zb,Zu,Zu,Zu,Zu,Zi,Zu,Zu,Zu,Zs,Zs,Zs,Zs,Zs,Zi,Zu,Zu,Zs,Zs,Zu,Zs,Zu,Zi,Zi,Zf,Zf,Zu,Zi,.bool false],bd (Pt f 0) b9,cells g [Pt f 0],cells h [U1 (u8.wrap l.1),U6 c1,U6 c2,Zu,Zu,Zi,Zu,Zu,Zu,Zs,Zs,Zs,Zs,Zs,Zi,Zu,Zu,Zs,Zs,Zu,Zs,Zu,Zi,Zi,Zf,Zf,Zu,Zi,.bool false]] R) from ?_) ?_)))
 {
 clear c; have c:=m5
 refine c0 func163 z z (rg b 7 [0,1,0,7,15,31,63] [] mixed (sL 0 z z (·.bc2 z) (sL 2 z z (·.bc2 z) (e1 1 z z fun w b=>?_))))
 replace b:=b.ah
 obtain ⟨f0,m6,c⟩:=bn c
 refine wec call98 [Pt f 0,I6 8] z z (kcI (aN b.to1 m6) fun v1 b=>wn [2] b (pL z z (·.bc2 z) aT) (e1 3 z z fun w b=>bk c fun f1 m7 c=>wec call98 [Pt f 0,I6 8] z z (kcI (aN b.to1 m7) fun v2 b=>w0n b (sk (.agg #[U6 f0.1,U6 f1.1]) 4 z (sF 5 z z fI (e1 6 z z fun w b=>?_))))))
 replace b:=b.ah
 refine bye (.agg #[U6 f0.1,U6 f1.1]) b z sI (oC z (oC z oN)) fun v3 b=>w0n b (bt ?_)
 refine fun w b=>mj (vs:=[]) z bl ?_
 cases c
 exact ⟨_,_,_,z,z,b.aD.aD.aA.eQ⟩
}
 rintro _ v4 ⟨b9,c1,c2,rfl,rfl,b⟩
 refine ⟨_,z,?_⟩
 try dsimp only at c
 refine nt (ww (mL z (b.bc2 z) ?_))
 replace b:=b.ah
 obtain ⟨m8,m9,c⟩:=bn c
 refine wc call98 [Pt f 0,I6 8] z z z (kcI (aN b.to1 m9) fun v5 b=>mF z fI ?_)
 replace b:=b.aA
 refine byk (U6 m8.1) b z sI (oC z oN) fun v6 b=>nt (ww (mL z (b.bc3 z) ?_))
 cases c
}
 intro m3 c
 cases c
}
 rintro _ v7 ⟨Q,S,d,o,p,q,s,t,u,x,y,c,⟨v8,rfl⟩,f2,b⟩
 dsimp only [oF] at c
 replace H:=H.mono (ro_le f2)
 replace P:=P.trans f2
 refine aj (ww (mL z (b.bc1 z) ?_))
 replace b:=b.aD
 obtain ⟨v9,n0,c⟩:=bn c
 refine wc call109 [Pt f 0] z z z (kcI (iE b.to1 n0) fun x0 b=>mb z (mb z (bs c ?_ ?_)))
 {
 intro m c
 cases c
}
 refine fun m c=>gg m (xN z (b.ul 0 tz)) ?_
 replace b:=b.bj
 obtain ⟨x1,f3,b⟩:=b.cz
 replace b:=b.bq
 obtain ⟨x2,f4,b⟩:=b.cz
 replace b:=b.de
 obtain ⟨x3,f5,b⟩:=b.cz
 replace b:=b.aW
 obtain ⟨x4,f6,b⟩:=b.cz
 replace b:=b.bM
 obtain ⟨x5,f7,b⟩:=b.cz
 replace b:=b.ca
 obtain ⟨x6,f8,b⟩:=b.cz
 replace b:=b.bR
 obtain ⟨x7,f9,b⟩:=b.cz
 replace b:=b.kA
 obtain ⟨x8,g0,b⟩:=b.cz
 obtain ⟨x9,n1,c⟩:=bn c
 refine dh ((av z z z (cvb m)).trans z) z (gO call117 z (vs:=[.agg #[U1 d.Kind,U6 d.ID.ab,U6 d.ID.Seq,U6 d.ae,U6 d.Index,I6 d.E,U6 d.br.ID.ab,U6 d.br.ID.Seq,U6 d.br.ae,o,p,q,s,t,I6 d.R.E,U6 d.R.ae,U6 d.R.Index,u,x,U6 d.bY,y,U6 d.ap.ID,I6 d.ap.dn,I6 d.ap.To,F6 d.ap.Lo,F6 d.ap.Hi,U6 d.ap.Authority,I6 d.ap.cx,.bool d.On]]) z) (kdI (tY (b.Mq f3) (b.LN f4) (b.LO f5) (b.Mo f6) (b.LZ f7) (b.Mb f8) (b.tg f9) (b.jA g0) b.to0 n1) fun n2 y0 b=>?_)
 replace b:=(((((((b.bM.bo f3).bM.bo f4).bM.bo f5).bM.bo f6).bM.bo f7).bM.bo f8).bM.bo f9).bM.bo g0
 refine gv (k) m z ?_
 replace b:=b.bM
 obtain ⟨y1,g1,b⟩:=b.cz
 obtain ⟨y2,n3,c⟩:=bn c
 refine dh ((av z z z (cvb m)).trans z) z (gO call110 z (vs:=[n2,k]) z) (kcO (fv (b.jA g1) (H.mono cS) b.to0 n3) fun y3 b=>?_)
 replace b:=b.bo g1
 refine gb m z (mb (aL m z z) (nt (bw c z ?_ ?_)))
 {
 intro n4 c
 cases c
}
 refine fun n4 c=>al (tn (ww (mz (xN z (b.MH 0 tz)) ?_)))
 replace b:=b.bR
 refine bxk b z sI (oJ 9 z (oC (oS b.sv9) (oC (oS b.sv8) (oC (oS b.sv7) (oC (oS b.sv6) (oC (oS b.sv5) (oJ 3 z (oC (oS b.sv4) (oC (oS b.sv3) (oC z (oC (oS b.sv2) (oJ 8 z oN)))))))))))) fun y4 b=>mi z (nt (ar ?_))
 cases c
 exact dI [.agg #[U1 d.Kind,U6 d.ID.ab,U6 d.ID.Seq,U6 d.ae,U6 d.Index,I6 d.E,U6 d.br.ID.ab,U6 d.br.ID.Seq,U6 d.br.ae,o,p,q,s,t,I6 d.R.E,U6 d.R.ae,U6 d.R.Index,u,x,U6 d.bY,y,U6 d.ap.ID,I6 d.ap.dn,I6 d.ap.To,F6 d.ap.Lo,F6 d.ap.Hi,U6 d.ap.Authority,I6 d.ap.cx,.bool d.On],Zi] z (ea (rN z (b.fm 0 tz)) (rc z bl)) ⟨_,o,p,q,s,t,u,x,y,z,P,b.aD.aA.bj.bq.de.aW.bM.ca.MF⟩
}
theorem Ac {a0:(List Int)} {k:Value} (g:Ro (cr .u8) I k a0) (b:St w0 w I [] R) {r:(ai×Int)} (c:sD a0=some r) :
  Calls prog 41 #[k] w fun e w'=>∃ (I':HL) (q0:Value),e = .returned (.tuple #[q0,I6 r.2])∧I.le I'∧St w0 w' I' [aM q0 r.1] R:=by {
 unfold sD at c
 refine c0 func41 z z ?_
 have h:=HL.le.refl I
 refine ww (mv (.pointer none) z (mi z (nt (ww (mv (k) z (bk c fun t1 g6 c=>wc call97 [k] z z z (kdI (nj g b.to0 g6) fun d t2 b=>mv (d) z (nt (ww (mv (d) z (bk c fun t g7 c=>wc call98 [d,I6 4] z z z (kcI (aN b.to1 g7) fun t3 b=>mk (.int .i64 (i64.wrap t.1)) (mv (d) z (bk c fun K g8 c=>wc call98 [d,I6 8] z z z (kcI (aN b.to1 g8) fun t4 b=>mk (.agg #[I6 (i64.wrap t.1),U6 K.1,.pointer none,.pointer none,.pointer none,.pointer none,Zs,Zs,Zs]) ?_)))))))))))))))
 obtain ⟨j,t5,g9,h0,b⟩:=b.box [I6 (i64.wrap t.1),U6 K.1,.pointer none,.pointer none,.pointer none,.pointer none,Zs,Zs,Zs] 111
 refine wa g9 h0 (mp z (nt (ww ?_)))
 obtain ⟨t6,t7,h1,h2,b⟩:=b.box [Zi,Zi,Zi,Zi] 174
 refine wa h1 h2 (nt (ww (mp z (mv (d) z (mv (k) z (mz (bX z uI (ak g)) ?_))))))
 replace b:=b.aD
 obtain ⟨t8,h3,c⟩:=bn c
 refine wc call100 [d,I6 ((a0).length:Int)] z z z (kdJ (ef b.to1 h3) fun h4 t9 b=>?_)
 obtain ⟨u0,d1,h5,b⟩:=b.cO
 replace g:=g.mono (ro_le d1)
 replace h:=h.trans d1
 obtain ⟨u,h6,c⟩:=bn c
 refine wc call99 [h4] z z z ((zZ h5 b.to0 h6).mono ?_)
 rintro _ u1 ⟨u2,d2,rfl,d3,b⟩
 refine ⟨_,z,?_⟩
 replace b:=b.of1
 replace g:=g.mono (ro_le d3)
 replace h:=h.trans d3
 refine mv (.tuple #[d2,I6 u.2]) z (mv (d2) z (mi z (mp z (mF z fI ?_))))
 obtain ⟨d4,u3,rfl,h7⟩:=ec b
 have b:=h7
 replace b:=b.bj
 refine byk (Pt d4 0) b z sI (oC z oN) fun u4 b=>mp (fP (i:=0) z z uI sI deA deA) ?_
 replace b:=b.bj
 refine byk (I6 u.2) b z sI (oC z oN) fun u5 b=>nt (ww (mp z (mv (d) z (mv (k) z (mz (bX z uI (ak g)) ?_)))))
 replace b:=b.bj
 obtain ⟨u6,h8,c⟩:=bn c
 refine wc call100 [d,I6 ((a0).length:Int)] z z z (kdJ (ef b.to1 h8) fun h9 u7 b=>?_)
 obtain ⟨u9,d5,i0,b⟩:=b.cO
 replace g:=g.mono (ro_le d5)
 replace h:=h.trans d5
 obtain ⟨x,i1,c⟩:=bn c
 refine wc call101 [h9] z z z ((zB i0 b.to0 i1).mono ?_)
 rintro _ v0 ⟨v1,d6,rfl,d7,b⟩
 refine ⟨_,z,?_⟩
 replace b:=b.of1
 replace g:=g.mono (ro_le d7)
 replace h:=h.trans d7
 refine mv (.tuple #[d6,I6 x.2]) z (mv (d6) z (mi z (mp z (mF z fI ?_))))
 obtain ⟨d8,v2,rfl,i2⟩:=dP b
 have b:=i2
 replace b:=b.bj
 refine byk (Pt d8 0) b z sI (oC z oN) fun v3 b=>mp (fP (i:=1) z z uI sI deA deA) ?_
 replace b:=b.bj
 refine byk (I6 x.2) b z sI (oC z oN) fun v4 b=>nt (ww (mp z (mv (d) z (mv (k) z (mz (bX z uI (ak g)) ?_)))))
 replace b:=b.bj
 obtain ⟨v5,i3,c⟩:=bn c
 refine wc call100 [d,I6 ((a0).length:Int)] z z z (kdJ (ef b.to1 i3) fun i4 v6 b=>?_)
 obtain ⟨v7,d9,i5,b⟩:=b.cO
 replace g:=g.mono (ro_le d9)
 replace h:=h.trans d9
 obtain ⟨y,i6,c⟩:=bn c
 refine wc call102 [i4] z z z ((yz i5 b.to0 i6).mono ?_)
 rintro _ v8 ⟨v9,e0,rfl,e2,b⟩
 refine ⟨_,z,?_⟩
 replace b:=b.of1
 replace g:=g.mono (ro_le e2)
 replace h:=h.trans e2
 refine mv (.tuple #[e0,I6 y.2]) z (mv (e0) z (mi z (mp z (mF z fI ?_))))
 obtain ⟨e3,x0,rfl,i7⟩:=dJ b
 have b:=i7
 replace b:=b.bj
 refine byk (Pt e3 0) b z sI (oC z oN) fun x1 b=>mp (fP (i:=2) z z uI sI deA deA) ?_
 replace b:=b.bj
 refine byk (I6 y.2) b z sI (oC z oN) fun x2 b=>nt (ww (mp z (mv (d) z (mv (k) z (mz (bX z uI (ak g)) ?_)))))
 replace b:=b.bj
 obtain ⟨x3,i8,c⟩:=bn c
 refine wc call100 [d,I6 ((a0).length:Int)] z z z (kdJ (ef b.to1 i8) fun i9 x4 b=>?_)
 obtain ⟨b0,e4,j0,b⟩:=b.cO
 replace g:=g.mono (ro_le e4)
 replace h:=h.trans e4
 obtain ⟨A,j1,c⟩:=bn c
 refine wc call103 [i9] z z z (kdI (zd j0 b.to0 j1) fun e5 x5 b=>mv (.tuple #[e5,I6 A.2]) z (mv (e5) z (mi z (mp z (mF z fI ?_)))))
 obtain ⟨e6,x6,rfl,j2⟩:=eF b
 have b:=j2
 replace b:=b.bj
 refine byk (Pt e6 0) b z sI (oC z oN) fun x7 b=>mp (fP (i:=3) z z uI sI deA deA) ?_
 replace b:=b.bj
 refine byk (I6 A.2) b z sI (oC z oN) fun x8 b=>nt (aj (ww (mz (xN z (b.fm 0 tz)) (mk (.agg #[Zi,Zi,Zi,Zi]) (mb (HU z z krA uI uI sI aI) (nt (bw c z ?_ ?_)))))))
 {
 intro j3 c
 cases c
}
 refine fun j3 c=>al (tn ?_)
 obtain ⟨j4,c,j5⟩:=ee c
 refine cR (fun a w=>∃ (o:HL) (b1:ag) (L:ai),(qQ a0) (b1,L)=some r∧fz 189 [0,4,5] [k,d,Pt j 0] a∧b0.le o∧St w0 w o [bd d b1,aM (Pt j 0) L] R) ?_ ?_
 {
 have b2:=HL.le.refl b0
 refine ww (mv (d) z (mv (d) z ?_))
 replace b:=b.bj
 obtain ⟨j6,j7,c⟩:=bn c
 refine wc call105 [d] z z z (kcI (fl b.to1 j7) fun x9 b=>bk c fun b3 j8 c=>wc call104 [d,I6 j6] z z z (kcI (dm b.to1 j8) fun y0 b=>mi z (nt (au ?_))))
 replace b:=(aF (Pt j 0) (({wide:=(i64.wrap t.1),cI:=K.1,store:=(some u.1),ft:=(some x.1),last:=(some y.1),book:=(some A.1),open_:=[],out:=[],used:=[]}:ai)) ((((aR (dk (Pt e6 0) A.1 (aR (cQ (Pt e3 0) y.1 (aR (dt (Pt d8 0) x.1 (aR (cY (Pt d4 0) u.1 b.bR.bR z)).ca.ca z)).bM.bM z)).aW.aW z)).ba bc).ba cL).ba db).ah.aD.aA.bj.bq.de.ca z).aD.sub
 obtain ⟨j9,c⟩:=aS c
 refine bg (fun n a w=>∃ (b4:HL) (M:ag) (p:ai) (b5:Int),cU (nn b3) n (M,p,b5)=some j4∧fz 189 [0,4,5,73,74] [k,d,Pt j 0,I6 b3.1,I6 b5] a∧b0.le b4∧St w0 w b4 [aM (Pt j 0) p,bd d M] R) j9 ⟨_,b3.2,({wide:=(i64.wrap t.1),cI:=K.1,store:=(some u.1),ft:=(some x.1),last:=(some y.1),book:=(some A.1),open_:=[],out:=[],used:=[]}:ai),0,c,fy z,lr,b⟩ ?_
 rintro y1 _ y2 ⟨b4,M,p,b5,c,⟨y3,rfl⟩,l,b⟩
 obtain ⟨y4,y5,rfl,c,e7⟩:=aU c
 dsimp only [nn] at c
 replace b2:=b2.trans l
 refine ww (mb z (nt (aj (bw c z ?_ ?_))))
 {
 refine fun k0 c=>al (tn (aj (au (ww (mv (d) z ?_)))))
 replace b:=b.ah
 obtain ⟨B,k1,c⟩:=bn c
 refine wc call98 [d,I6 1] z z z (kcI (aN b.to1 k1) fun y6 b=>mk (.int .i64 (i64.wrap B.1)) (mk (.agg #[Zu,Zu,I6 (i64.wrap B.1),Zu,Zu,Zu,Zs]) ?_))
 obtain ⟨y7,y8,k2,k3,b⟩:=b.box [Zu,Zu,Zi,Zu,Zu,Zu,Zs] 89
 refine wa k2 k3 (bxk b z sI (oJ 7 z oN) fun y9 b=>nt (ww (mv (d) z ?_)))
 replace b:=b.ah
 obtain ⟨A0,k4,c⟩:=bn c
 refine wc call100 [d,I6 1048576] z z z (kdJ (ef b.to1 k4) fun k5 A1 b=>?_)
 obtain ⟨A2,k6,k7,b⟩:=b.cO
 replace l:=l.trans k6
 obtain ⟨f,k8,c⟩:=bn c
 refine wc call106 [k5] z z z ((yv k7 b.to0 k8).mono ?_)
 rintro _ A3 ⟨A4,e8,e9,f0,f1,f2,f3,f4,O,rfl,k9,b⟩
 refine ⟨_,z,?_⟩
 replace b:=b.of8
 replace l:=l.trans k9
 refine mv (.tuple #[.agg #[U1 f.1.Kind,U6 f.1.ID.ab,U6 f.1.ID.Seq,U6 f.1.ae,U6 f.1.Index,I6 f.1.E,U6 f.1.br.ID.ab,U6 f.1.br.ID.Seq,U6 f.1.br.ae,e8,e9,f0,f1,f2,I6 f.1.R.E,U6 f.1.R.ae,U6 f.1.R.Index,f3,f4,U6 f.1.bY,O,U6 f.1.ap.ID,I6 f.1.ap.dn,I6 f.1.ap.To,F6 f.1.ap.Lo,F6 f.1.ap.Hi,U6 f.1.ap.Authority,I6 f.1.ap.cx,.bool f.1.On],I6 f.2]) z (mv (.agg #[U1 f.1.Kind,U6 f.1.ID.ab,U6 f.1.ID.Seq,U6 f.1.ae,U6 f.1.Index,I6 f.1.E,U6 f.1.br.ID.ab,U6 f.1.br.ID.Seq,U6 f.1.br.ae,e8,e9,f0,f1,f2,I6 f.1.R.E,U6 f.1.R.ae,U6 f.1.R.Index,f3,f4,U6 f.1.bY,O,U6 f.1.ap.ID,I6 f.1.ap.dn,I6 f.1.ap.To,F6 f.1.ap.Lo,F6 f.1.ap.Hi,U6 f.1.ap.Authority,I6 f.1.ap.cx,.bool f.1.On]) z (mi z ?_))
 obtain ⟨A5,A6,l0,l1,b⟩:=b.box [Zb,Zu,Zu,Zu,Zu,Zi,Zu,Zu,Zu,Zs,Zs,Zs,Zs,Zs,Zi,Zu,Zu,Zs,Zs,Zu,Zs,Zu,Zi,Zi,Zf,Zf,Zu,Zi,.bool false] 49
 refine wa l0 l1 (bxk b z sI (oJ 9 z (oC (oS b.sv1) (oC (oS b.sv2) (oC (oS b.sv3) (oC (oS b.sv4) (oC (oS b.sv5) (oJ 3 z (oC (oS b.sv6) (oC (oS b.sv7) (oC z (oC (oS b.sv8) (oJ 8 z oN)))))))))))) fun A7 b=>mi z (nt (aj (ww (mi z (mb z (mb z (bs c ?_ ?_))))))))
 {
 intro C c
 cases c
}
 refine fun C c=>gg C (xF z fI z) (gg C (xL z (b.bc0 z)) (gb C z (mb (aL C z z) (nt (bw c z ?_ ?_)))))
 {
 intro l2 c
 cases c
}
 refine fun l2 c=>al (tn (aj (rg b 21 [0,1,0,4,0,16,48,0,128,0,512,3,2051,6159,14351,30847,63615,129535,260607,524287,1048575] [] mixed (sF 0 z z fI (sh _ 1 z (fun w b=>xN (cs:=[U6 f.1.ID.ab,U6 f.1.ID.Seq]) z (b.fm 1 z)) (sF 2 z z fI (sL 3 z z (·.bc0 z) (sF 4 z z fI (sF 5 z z fI (sL 6 z z (·.bc0 z) (sF 7 z z fI (sL 8 z z (·.bc0 z) (sF 9 z z fI (sL 10 z z (·.bc0 z) (sF 11 z z fI (e1 12 z z fun w b=>?_))))))))))))))))
 replace b:=b.bR
 refine bye (.agg #[U6 f.1.ID.ab,U6 f.1.ID.Seq]) b z sI (oC z (oC z oN)) fun A8 b=>wn [10,9,8,7,6,5,4,3,2] b (pL z z (·.bc1 z) (pF z z fI (pL z z (·.bc1 z) (pF z z fI (pL z z (·.bc1 z) (pF z z fI (pF z z fI (pL z z (·.bc1 z) (pF z z fI aT))))))))) (sF 13 z z fI (e1 14 z z fun w b=>bye (U6 f.1.ae) b z sI (oC z oN) fun A9 b=>wn [10,9,8,7,6,5,4] b (pL z z (·.bc1 z) (pF z z fI (pL z z (·.bc1 z) (pF z z fI (pL z z (·.bc1 z) (pF z z fI (pF z z fI aT))))))) (sF 15 z z fI (e1 16 z z fun w b=>bye (U6 f.1.R.Index) b z sI (oC z oN) fun B0 b=>wn [10,9,8,7] b (pL z z (·.bc1 z) (pF z z fI (pL z z (·.bc1 z) (pF z z fI aT)))) (sF 17 z z fI (e1 18 z z fun w b=>bye (U6 f.1.bY) b z sI (oC z oN) fun B1 b=>wn [10,9] b (pL z z (·.bc1 z) (pF z z fI aT)) (sF 19 z z fI (e1 20 z z fun w b=>b1e O b z (oS b.sv9) sI fun B2 b=>w0n b (bt ?_)))))))))
 refine fun w b=>tn ?_
 obtain ⟨B3,B4,B5,B6,B7,B8,B9,C0,b6,l3⟩:=bC b.kA
 replace b6:=ez b6
 subst b6
 have b:=l3
 refine rg b 11 [0,0,2,6,14,0,32,126,255,511,1023] [] mixed (sp 0 z z (sp 1 z z (sp 2 z z (sF 3 z z fI (sL 4 z z (·.bc0 z) (sh _ 5 z (fun w b=>xN z (b.Bk 0 tz)) (e1 6 z z fun w b=>?_)))))))
 replace b:=b.LH
 obtain ⟨C1,l4,f5,b⟩:=b.cO
 replace l:=l.trans l4
 obtain ⟨l5,l6,l7,l8,b⟩:=b.lits (E:=bc) (xs:=[({f.1 with E:=(i64.wrap B.1),Index:=f.1.R.Index}:bI)]) [[U6 f.1.ID.ab,U6 f.1.ID.Seq,I6 (i64.wrap B.1),U6 f.1.ae,U6 f.1.R.Index,U6 f.1.bY,O]] 89 1 z (bT.cons ⟨_,z,f5,oS (ak f5)⟩ bT.nil)
 refine cj (v:=(.slice (some ⟨l5,0,none⟩) 1 1)) (w':=l6) z (dH krA l7 l8) (wn [4,3,2,1,0] b (pL z z (·.bc1 z) (pF z z fI (pz (pz (pz aT))))) (e1 7 z z fun w b=>?_))
 obtain ⟨l9,c⟩:=cF c
 replace b:=b.de
 obtain ⟨f6,m0,m1,b⟩:=bO vC underlying65 b b.iL (cP l9 z) 65
 refine cj (v:=f6) (w':=m0) z (ck z z m1) (wn [0] b (pz aT) (sp 8 z z (sF 9 z z fI (e1 10 z z fun w b=>?_))))
 replace b:=b.aD
 refine b1e f6 b z (oS b.sv1) sI fun C2 b=>w0n b (bt ?_)
 refine fun w b=>bJ (tn (wrl (mi z (mi z (nt ?_)))))
 cases c
 exact ⟨_,nls,_,_,_,_,e7,fy z,l,(aF (Pt j 0) (({p with open_:=(p.open_++([({f.1 with E:=(i64.wrap B.1),Index:=f.1.R.Index}:bI)]))}:ai)) b.bM.bM.aA.bM.bM.bM.bM.aW z).kA.ah.cv⟩
}
 refine fun k0 c=>bH (aQ (aQ ?_))
 replace c:=bz c e7
 refine cZ (tn ?_)
 cases c
 exact ⟨_,M,p,j5,fy z,b2,b.ah.cv⟩
}
 rintro _ C3 ⟨o,b1,L,c,⟨C4,rfl⟩,f7,b⟩
 dsimp only [qQ] at c
 replace g:=g.mono (ro_le f7)
 replace h:=h.trans f7
 obtain ⟨m2,c,m3⟩:=bn c
 refine cR (fun a w=>∃ (D:HL) (b7:ag) (P:ai),(rG a0) (b7,P)=some r∧fz 189 [0,4,5] [k,d,Pt j 0] a∧o.le D∧St w0 w D [bd d b7,aM (Pt j 0) P] R) ?_ ?_
 {
 have b8:=HL.le.refl o
 refine ww (mv (d) z (mv (d) z (bk c fun m4 m5 c=>wc call105 [d] z z z (kcI (fl b.to1 m5) fun C5 b=>bk c fun b9 m6 c=>wc call104 [d,I6 m4] z z z (kcI (dm b.to1 m6) fun C6 b=>mi z (nt (au ?_)))))))
 obtain ⟨m7,c⟩:=aS c
 refine bg (fun n a w=>∃ (c1:HL) (Q:ag) (q:ai) (c2:Int),cU (mV b9) n (Q,q,c2)=some m2∧fz 189 [0,4,5,123,124] [k,d,Pt j 0,I6 b9.1,I6 c2] a∧o.le c1∧St w0 w c1 [bd d Q,aM (Pt j 0) q] R) m7 ⟨_,b9.2,L,0,c,fy z,lr,b⟩ ?_
 rintro C7 _ C8 ⟨c1,Q,q,c2,c,⟨C9,rfl⟩,S,b⟩
 obtain ⟨D0,D1,rfl,c,f8⟩:=aU c
 dsimp only [mV] at c
 replace b8:=b8.trans S
 refine ww (mb z (nt (aj (bw c z ?_ ?_))))
 {
 refine fun m8 c=>al (tn (aj (au ?_)))
 obtain ⟨D2,D3,D4,D5,D6,D7,D8,D9,c3,m9⟩:=bC b.ah
 replace c3:=ez c3
 subst c3
 have b:=m9
 refine rg b 28 [0,0,2,6,14,0,32,96,0,352,0,1888,0,8032,0,32608,65376,0,261984,0,1048416,2096992,4194272,8388576,16777214,33554431,67108863,134217727] [] mixed (sp 0 z z (sp 1 z z (sp 2 z z (sF 3 z z fI (sL 4 z z (·.bc0 z) (sz (d) 5 z z (sz (d) 8 z z (sz (d) 10 z z (sz (d) 12 z z (sz (d) 14 z z (sz (d) 17 z z (sz (d) 19 z z (e1 6 z z fun w b=>?_)))))))))))))
 replace b:=b.bM
 obtain ⟨F,n0,c⟩:=bn c
 refine wec call98 [d,I6 1] z z (kcI (aN b.to1 n0) fun E0 b=>wn [19,17,14,12,10,8,4,3,2,1,0] b (pz (pz (pz (pz (pz (pz (pL z z (·.bc1 z) (pF z z fI (pz (pz (pz aT))))))))))) (sk (.int .i64 (i64.wrap F.1)) 7 z (e1 9 z z fun w b=>bk c fun T n1 c=>wec call98 [d,I6 8] z z (kcI (aN b.to1 n1) fun E1 b=>wn [7,19,17,14,12,10,4,3,2,1,0] b (pkr z z (fun w b=>by kernel_rfl) (pz (pz (pz (pz (pz (pL z z (·.bc1 z) (pF z z fI (pz (pz (pz aT))))))))))) ?_))))
 refine e1 11 z z fun w b=>bk c fun U n2 c=>wec call98 [d,I6 8] z z (kcI (aN b.to1 n2) fun E2 b=>wn [7,19,17,14,12,4,3,2,1,0] b (pkr z z (fun w b=>by kernel_rfl) (pz (pz (pz (pz (pL z z (·.bc1 z) (pF z z fI (pz (pz (pz aT)))))))))) ?_)
 refine e1 13 z z fun w b=>bk c fun V n3 c=>wec call98 [d,I6 8] z z (kcI (aN b.to1 n3) fun E3 b=>wn [7,19,17,14,4,3,2,1,0] b (pkr z z (fun w b=>by kernel_rfl) (pz (pz (pz (pL z z (·.bc1 z) (pF z z fI (pz (pz (pz aT))))))))) ?_)
 refine e1 15 z z fun w b=>bk c fun n4 n5 c=>wec call98 [d,I6 8] z z (kcI (aN b.to1 n5) fun E4 b=>wn [7,19,17,4,3,2,1,0] b (pkr z z (fun w b=>by kernel_rfl) (pz (pz (pL z z (·.bc1 z) (pF z z fI (pz (pz (pz aT)))))))) ?_)
 refine e1 16 z z fun w b=>bk c fun G n6 c=>wec call107 [U6 n4.1] z z (kcO (fq b.to0 n6) fun E5 b=>wn [7,19,17,4,3,2,1,0] b (pkr z z (fun w b=>by kernel_rfl) (pz (pz (pL z z (·.bc1 z) (pF z z fI (pz (pz (pz aT)))))))) ?_)
 refine e1 18 z z fun w b=>bk c fun H n7 c=>wec call108 [d] z z (kcI (lE b.to1 n7) fun E6 b=>wn [7,19,4,3,2,1,0] b (pkr z z (fun w b=>by kernel_rfl) (pz (pL z z (·.bc1 z) (pF z z fI (pz (pz (pz aT))))))) ?_)
 refine e1 20 z z fun w b=>bk c fun f9 n8 c=>wec call100 [d,I6 256] z z (kdJ (ef b.to1 n8) fun c4 E7 b=>wn [7,4,3,2,1,0] b (pkr z z (fun w b=>by kernel_rfl) (pL z z (·.bc2 z) (pF z z fI (pz (pz (pz aT)))))) ?_)
 refine wsr (.agg #[F6 G,.bool H.1,c4]) 21 rfl rfl rfl krA (fun w b=>by obtain ⟨_,_,hv_,_⟩:=b.sv0; rw [hv_]; kernel_rfl) (wsr (.agg #[I6 (i64.wrap F.1),U6 T.1,U6 U.1,U6 V.1,F6 G,.bool H.1,c4]) 22 rfl rfl rfl krA (fun w b=>by obtain ⟨_,_,hv_,_⟩:=b.sv0; rw [hv_]; kernel_rfl) (e1 23 z z fun w b=>?_))
 obtain ⟨E8,n9,g0,b⟩:=b.cO
 replace S:=S.trans n9
 obtain ⟨o0,o1,o2,o3,b⟩:=b.lits (E:=cL) (xs:=[({To:=(i64.wrap F.1),N:=T.1,ap:=U.1,ae:=V.1,W:=({At:=G,Del:=H.1,Val:=f9.1}:bK)}:dw)]) [[I6 (i64.wrap F.1),U6 T.1,U6 U.1,U6 V.1,F6 G,.bool H.1,c4]] 53 1 z (bT.cons ⟨_,z,g0,oS (ak g0)⟩ bT.nil)
 refine cj (v:=(.slice (some ⟨o0,0,none⟩) 1 1)) (w':=o1) z (dH krA o2 o3) (wn [4,3,2,1,0] b (pL z z (·.bc2 z) (pF z z fI (pz (pz (pz aT))))) (e1 24 z z fun w b=>?_))
 obtain ⟨o4,c⟩:=cF c
 replace b:=b.bM
 obtain ⟨g1,o5,o6,b⟩:=bO vu underlying50 b b.iL (cP o4 z) 50
 refine cj (v:=g1) (w':=o5) z (ck z z o6) (wn [0] b (pz aT) (sp 25 z z (sF 26 z z fI (e1 27 z z fun w b=>?_))))
 replace b:=b.aA
 refine b1e g1 b z (oS b.sv1) sI fun E9 b=>w0n b (bt ?_)
 refine fun w b=>bJ (tn (wrl (mi z (mi z (nt ?_)))))
 cases c
 exact ⟨_,nls,_,_,_,_,f8,fy z,S,(aF (Pt j 0) (({q with out:=(q.out++([({To:=(i64.wrap F.1),N:=T.1,ap:=U.1,ae:=V.1,W:=({At:=G,Del:=H.1,Val:=f9.1}:bK)}:dw)]))}:ai)) b.ca.aD.ca.ca.ca.ca.ca.aW z).aD.cv⟩
}
 refine fun m8 c=>bH (aQ (aQ ?_))
 replace c:=bz c f8
 refine cZ (tn ?_)
 cases c
 exact ⟨_,Q,q,m3,fy z,b8,b.ah.ah.cv⟩
}
 rintro _ G0 ⟨D,b7,P,c,⟨G1,rfl⟩,g2,b⟩
 dsimp only [rG] at c
 replace g:=g.mono (ro_le g2)
 replace h:=h.trans g2
 obtain ⟨o7,c,o8⟩:=bn c
 refine cR (fun a w=>∃ (c5:ag) (c6:ai),(qX a0) (c5,c6)=some r∧fz 189 [0,4,5] [k,d,Pt j 0] a∧St w0 w D [bd d c5,aM (Pt j 0) c6] R) ?_ ?_
 {
 refine ww (mv (d) z (mv (d) z (bk c fun o9 q1 c=>wc call105 [d] z z z (kcI (fl b.to1 q1) fun G2 b=>bk c fun c7 q2 c=>wc call104 [d,I6 o9] z z z (kcI (dm b.to1 q2) fun G3 b=>mi z (nt (au ?_)))))))
 obtain ⟨q3,c⟩:=aS c
 refine bg (fun n a w=>∃ (X:ag) (s:ai) (c8:Int),cU (ng c7) n (X,s,c8)=some o7∧fz 189 [0,4,5,157,158] [k,d,Pt j 0,I6 c7.1,I6 c8] a∧St w0 w D [bd d X,aM (Pt j 0) s] R) q3 ⟨c7.2,P,0,c,fy z,b⟩ ?_
 rintro G4 _ G5 ⟨X,s,c8,c,⟨G6,rfl⟩,b⟩
 obtain ⟨G7,G8,rfl,c,g3⟩:=aU c
 dsimp only [ng] at c
 refine ww (mb z (nt (aj (bw c z ?_ ?_))))
 {
 refine fun q4 c=>al (tn (aj (au ?_)))
 obtain ⟨G9,H0,H1,H2,H3,H4,H5,H6,c9,q5⟩:=bC b.ah
 replace c9:=ez c9
 subst c9
 have b:=q5
 refine rg b 18 [0,0,2,6,14,0,32,0,224,0,992,2016,4064,8160,16382,32767,65535,131071] [] mixed (sp 0 z z (sp 1 z z (sp 2 z z (sF 3 z z fI (sL 4 z z (·.bc0 z) (sz (d) 5 z z (sz (d) 7 z z (sz (d) 9 z z (e1 6 z z fun w b=>?_)))))))))
 replace b:=b.bM
 obtain ⟨Y,q6,c⟩:=bn c
 refine wec call98 [d,I6 8] z z (kcI (aN b.to1 q6) fun H7 b=>wn [9,7,4,3,2,1,0] b (pz (pz (pL z z (·.bc1 z) (pF z z fI (pz (pz (pz aT))))))) (e1 8 z z fun w b=>bk c fun Z q7 c=>wec call98 [d,I6 8] z z (kcI (aN b.to1 q7) fun H8 b=>wn [9,4,3,2,1,0] b (pz (pL z z (·.bc1 z) (pF z z fI (pz (pz (pz aT)))))) (e1 10 z z fun w b=>bk c fun J q8 c=>?_))))
 refine wec call98 [d,I6 4] z z (kcI (aN b.to1 q8) fun H9 b=>wn [4,3,2,1,0] b (pL z z (·.bc1 z) (pF z z fI (pz (pz (pz aT))))) (sk (.int .i64 (i64.wrap J.1)) 11 z (sk (.agg #[U6 Y.1,U6 Z.1,I6 (i64.wrap J.1)]) 12 z (e1 13 z z fun w b=>?_))))
 obtain ⟨q9,s0,s1,s2,b⟩:=b.lits (E:=db) (xs:=[({jW:=Y.1,cI:=Z.1,n:=(i64.wrap J.1)}:da)]) [[U6 Y.1,U6 Z.1,I6 (i64.wrap J.1)]] 189 1 z (bT.cons z bT.nil)
 refine cj (v:=(.slice (some ⟨q9,0,none⟩) 1 1)) (w':=s0) z (dH krA s1 s2) (wn [4,3,2,1,0] b (pL z z (·.bc2 z) (pF z z fI (pz (pz (pz aT))))) (e1 14 z z fun w b=>?_))
 obtain ⟨s3,c⟩:=cF c
 replace b:=b.ca
 obtain ⟨g4,s4,s5,b⟩:=bO AM underlying109 b b.iL (cP s3 z) 109
 refine cj (v:=g4) (w':=s4) z (ck z z s5) (wn [0] b (pz aT) (sp 15 z z (sF 16 z z fI (e1 17 z z fun w b=>?_))))
 replace b:=b.aA
 refine b1e g4 b z (oS b.sv1) sI fun J0 b=>w0n b (bt ?_)
 refine fun w b=>bJ (tn (wrl (mi z (mi z (nt ?_)))))
 cases c
 exact ⟨_,nls,_,_,_,g3,fy z,(aF (Pt j 0) (({s with used:=(s.used++([({jW:=Y.1,cI:=Z.1,n:=(i64.wrap J.1)}:da)]))}:ai)) b.ah.ca.ca.ca.ca.ca.ca.aW z).aD.cv⟩
}
 refine fun q4 c=>bH (aQ (aQ ?_))
 replace c:=bz c g3
 refine cZ (tn ?_)
 cases c
 exact ⟨X,s,o8,fy z,b.ah.ah.cv⟩
}
 rintro _ J1 ⟨c5,c6,c,⟨J2,rfl⟩,b⟩
 dsimp only [qX] at c
 refine aj (ww (mv (d) z (bk c fun J3 s6 c=>wc call109 [d] z z z (kcI (iE b.to1 s6) fun J4 b=>mb z (mb z (bs c ?_ ?_))))))
 {
 intro m c
 cases c
}
 refine fun m c=>gp m z ?_
 replace b:=aR b.ah
 obtain ⟨J5,s7,c⟩:=bn c
 refine dh ((av z z z (cvb m)).trans z) z (gO call42 z (vs:=[Pt j 0]) z) (kdJ (rM b.to1 s7) fun s8 J6 b=>?_)
 replace b:=bQ b.ah
 refine gv (k) m z ?_
 replace b:=b.ah
 obtain ⟨J7,g5,b⟩:=b.cz
 obtain ⟨J8,s9,c⟩:=bn c
 refine dh ((av z z z (cvb m)).trans z) z (gO call110 z (vs:=[s8,k]) z) (kcO (fv (b.jA g5) (g.mono cS) b.to0 s9) fun J9 b=>?_)
 replace b:=b.bo g5
 refine gb m z (mb (aL m z z) (nt (bw c z ?_ ?_)))
 {
 intro t0 c
 cases c
}
 refine fun t0 c=>al (tn (ww (mp z (mp z (mi z (nt (ar ?_)))))))
 cases c
 exact dI [Pt j 0,Zi] z (rc z (rc z bl)) ⟨_,_,z,h,b.ah.bF⟩
}
theorem bu {a0:aB} {p0:Value} {a1:Int} (a:St w0 w I [cB p0 a0] R) {r:(Int×aB)} (b:aY a0 a1=some r) :
  Calls prog 64 #[p0,I6 a1] w fun e w'=>e = .returned (.int .i64 r.1)∧St w0 w' I [cB p0 r.2] R:=by {
 unfold aY at b
 refine c0 func64 z z (ww (mi z (nt (aj (aj ?_)))))
 obtain ⟨d,n,⟨rfl,c⟩,f⟩:=uj a
 have a:=f
 refine eU a mixed krA (qz (Pt _ _) z (qz (Pt _ _) z (qh _ (fun w a=>xF z fI z) (qh _ (fun w a=>xL z (a.bc0 z)) (qz (Pt _ _) z (qz (Pt _ _) z (qh _ (fun w a=>xF z fI z) (qh _ (fun w a=>xL z (a.bc0 z)) (qh _ (fun w a=>bX z uI (ak c)) (qz (.bool _) z (hK ?_)))))))))))
 refine fun w a=>tn (bw b z ?_ ?_)
 {
 refine fun g b=>ww (mi z (nt (ar (bh ?_))))
 cases b
 exact pI z z ⟨z,(pQ (Pt d 0) a0 a ⟨z,c⟩).bF⟩
}
 refine fun g b=>al (tn (ww (mp z (mp z (mF z fI (mL z (a.bc0 z) (mi z (mp z (mF z fI (byk (I6 (i64.wrap (a0.I+1))) a z sI (oC z oN) fun o a=>nt (aj (eU a mixed krA (qz (Pt _ _) z (qz (Pt _ _) z (qh _ (fun w a=>xF z fI z) (qh _ (fun w a=>xL z (a.bc0 z)) (qz (Pt _ _) z (qz (Pt _ _) z (qh _ (fun w a=>xF z fI z) (qh _ (fun w a=>xL z (a.bc0 z)) (qz (I6 _) z ?_)))))))))))))))))))))
 obtain ⟨h,i,b⟩:=bn b
 obtain ⟨j,k,l⟩:=aV i
 refine qh _ (fun w a=>aJ z z uI sI (ak c) j k) (qh _ (fun w a=>xL z (Gw c a l riA)) (yy (v:=.int .i64 (i64.wrap h)) z z (fun w a=>by kernel_rfl) (qz (I6 _) z ?_)))
 obtain ⟨m,b⟩:=cF b
 refine qh (I6 _) (fun w a=>Gy (MQ m) z z) (qz (I6 _) z (hK ?_))
 refine fun w a=>tn (ar ?_)
 cases b
 exact pI z z ⟨z,(pQ (Pt d 0) (({L:=a0.L,I:=(i64.wrap (a0.I+1))}:aB)) a ⟨z,c⟩).bF⟩
}
theorem mh {a0:aB} {p0:Value} (a:St w0 w I [cB p0 a0] R) {r:(cy×aB)} (b:fN a0=some r) :
  Calls prog 27 #[p0] w fun e w'=>e = .returned (.agg #[U6 r.1.ab,U6 r.1.Seq])∧St w0 w' I [cB p0 r.2] R:=by {
 unfold fN at b
 refine c0 func27 z z (ww ?_)
 obtain ⟨j,k,f,g,a⟩:=a.box [Zu,Zu] 28
 refine wa f g (nt (ww (mv (p0) z ?_)))
 replace a:=a.ah
 obtain ⟨c,h,b⟩:=bn b
 refine wc call64 [p0,I6 4] z z z (kcI (bu a.to1 h) fun l a=>mk (.int .u64 (u64.wrap c.1)) (mv (p0) z (bk b fun d i b=>wc call64 [p0,I6 4] z z z (kcI (bu a.to1 i) fun m a=>mi z (mk (.int .u64 (u64.wrap (i64.wrap (1+d.1)))) (mk (.agg #[U6 (u64.wrap c.1),U6 (u64.wrap (i64.wrap (1+d.1)))]) ?_))))))
 replace a:=a.ah
 refine bxk a z sI (oC z (oC z oN)) fun n a=>nt (ar ?_)
 cases b
 exact dI [.agg #[U6 (u64.wrap c.1),U6 (u64.wrap (i64.wrap (1+d.1)))]] z (ea (rN (cs:=[U6 (u64.wrap c.1),U6 (u64.wrap (i64.wrap (1+d.1)))]) z (a.fm 0 z)) bl) ⟨z,a.ah.bF⟩
}
theorem Ad {a0:Int} (a:St w0 w I [] R) {r:(Nat)} (b:ux a0=some r) :
  Calls prog 65 #[U1 a0] w fun e w'=>e = .returned (.float .f64 r)∧St w0 w' I [] R:=by {
 unfold ux at b
 refine c0 func65 z z (ww (mv (F6 _) z (nt (ww ?_))))
 obtain ⟨c,d,f,g,a⟩:=a.lits (E:=cp) (xs:=[(0:Nat),(4607182418800017408:Nat),(13830554455654793216:Nat),(4612811918334230528:Nat),(9094988921128908188:Nat),(18318360957983683996:Nat),(4602678819172646912:Nat),(4613937818241073152:Nat)]) [[Zf],[F6 (4607182418800017408:Nat)],[F6 (13830554455654793216:Nat)],[F6 (4612811918334230528:Nat)],[F6 (9094988921128908188:Nat)],[F6 (18318360957983683996:Nat)],[F6 (4602678819172646912:Nat)],[F6 (4613937818241073152:Nat)]] 37 8 z (bT.cons z (bT.cons z (bT.cons z (bT.cons z (bT.cons z (bT.cons z (bT.cons z (bT.cons z bT.nil))))))))
 refine cK (v:=(.slice (some ⟨c,0,none⟩) 8 8)) (w':=d) z z (dH krA f g) (mv ((.slice (some ⟨c,0,none⟩) 8 8)) z (nt (ww (mv ((.slice (some ⟨c,0,none⟩) 8 8)) z (mi z (mi (Gy deA z z) ?_))))))
 obtain ⟨h,i,b⟩:=bn b
 obtain ⟨j,k,l⟩:=aV i
 refine mz (aJ z z uI sI a.sv0 j k) (mL z (a.ol0 l riA) (mv (F6 _) z (nt (ar ?_))))
 obtain rfl:=sj b
 exact dI [F6 h] z (rc z bl) ⟨z,a.cT⟩
}
theorem fB {a0:aB} {p0:Value} (b:St w0 w I [cB p0 a0] R) {r:(Nat×aB)} (a:dL a0=some r) :
  Calls prog 28 #[p0] w fun e w'=>e = .returned (.float .f64 r.1)∧St w0 w' I [cB p0 r.2] R:=by {
 unfold dL at a
 refine c0 func28 z z (ww (mv (F6 _) z (nt (ww (mv (p0) z (bk a fun c d a=>wc call64 [p0,I6 8] z z z (kcI (bu b.to1 d) fun h b=>mk (.int .u8 (u8.wrap c.1)) (bk a fun f g a=>wc call65 [U1 (u8.wrap c.1)] z z z (kcO (Ad b.to0 g) fun i b=>mv (F6 _) z (nt (ar ?_)))))))))))
 cases a
 exact dI [F6 f] z (rc z bl) ⟨z,b.bF⟩
}
theorem nH {a0:aB} {p0:Value} (c:St w0 w I [cB p0 a0] R) {r:((List Int)×aB)} (b:gB a0=some r) :
  Calls prog 66 #[p0] w fun e w'=>∃ (l:Value),e = .returned (l)∧St w0 w' I [bp (cr .u8) l r.1,cB p0 r.2] R:=by {
 unfold gB at b
 refine c0 func66 z z (ww (mv ((.slice none 0 0)) z (nt (ww (mv ((.slice none 0 0)) z (nt (ww (mv (p0) z (bk b fun h o b=>wc call64 [p0,I6 4] z z z (kcI (bu c.to1 o) fun D c=>mi z (nt (aj (ww (mi z (nt (au ?_))))))))))))))))
 replace c:=c.ba (cr .u8)
 obtain ⟨p,b⟩:=aS b
 refine bg (fun n a w=>∃ (i:aB) (f:(List Int)) (j:Int) (d:Value),cU (iT h) n (i,f,j)=some r∧fz 21 [0,3,4,5] [p0,d,I6 h.1,I6 j] a∧St w0 w I [bp (cr .u8) d f,cB p0 i] R) p ⟨h.2,[],0,Zs,b,fy z,c⟩ ?_
 rintro F _ G ⟨i,f,j,d,b,⟨H,rfl⟩,c⟩
 obtain ⟨J,K,rfl,b,m⟩:=aU b
 dsimp only [iT] at b
 refine aj (ww (mi z (mi z (mb z (nt (bw b z ?_ ?_))))))
 {
 refine fun q b=>al (tn (aj (au (wrl (mv (d) z (mv (p0) z ?_))))))
 replace c:=c.ah
 obtain ⟨g,s,b⟩:=bn b
 refine wc call64 [p0,I6 26] z z z (kcI (bu c.to1 s) fun L c=>mi z (mk (.int .u8 (u8.wrap (i64.wrap (97+g.1)))) ?_))
 obtain ⟨t,u,x,y,c⟩:=c.lits (E:=(cr .u8)) (xs:=[(u8.wrap (i64.wrap (97+g.1)))]) [[U1 (u8.wrap (i64.wrap (97+g.1)))]] 5 1 z (bT.cons z bT.nil)
 refine cK (v:=(.slice (some ⟨t,0,none⟩) 1 1)) (w':=u) z z (dH krA x y) ?_
 obtain ⟨A,b⟩:=cF b
 replace c:=c.aD
 obtain ⟨k,B,C,c⟩:=bO xh underlying22 c c.iL (cP A z) 22
 refine cK (v:=k) (w':=B) z z (ck z z C) (mv (k) z (dv (bJ (tn (wrl (mi z (mi z (mi z (nt ?_)))))))))
 cases b
 exact ⟨_,nls,_,(f++([(u8.wrap (i64.wrap (97+g.1)))])),_,k,m,fy z,c.aD.ah.cv⟩
}
 refine fun q b=>bH (aQ (aQ ?_))
 replace b:=bz b m
 refine cZ (tn (ww (mv (d) z (mv (d) z (nt (ar ?_))))))
 cases b
 exact dI [d] z (rc z bl) ⟨d,z,c.ah.ah.cv⟩
}
theorem xx {a0:aB} {p0:Value} (b:St w0 w I [cB p0 a0] R) {r:(aw×aB)} (c:ku a0=some r) :
  Calls prog 83 #[p0] w fun e w'=>∃ (V:Value) (W:Value) (X:Value) (Y:Value),e = .returned (.agg #[U6 r.1.ID.ab,U6 r.1.ID.Seq,U6 r.1.ae,V,W,X,Y])∧St w0 w' I [bp cp V r.1.dO,bp fU W r.1.aX,bp cp X r.1.dD,bp (cr .u8) Y r.1.Data,cB p0 r.2] R:=by {
 unfold ku at c
 refine c0 func83 z z (ww ?_)
 obtain ⟨g,g4,b3,b4,b⟩:=b.box [Zu,Zu,Zu,Zs,Zs,Zs,Zs] 46
 refine wa b3 b4 (nt (ww (mv (p0) z ?_)))
 replace b:=b.ah
 obtain ⟨d,b5,c⟩:=bn c
 refine wc call27 [p0] z z z (kcI (mh b.to1 b5) fun g5 b=>mv (p0) z (bk c fun i b6 c=>wc call64 [p0,I6 4] z z z (kcI (bu b.to1 b6) fun g6 b=>mi z (mk (.int .u64 (u64.wrap (i64.wrap (1+i.1)))) (mk (.agg #[U6 d.1.ab,U6 d.1.Seq,U6 (u64.wrap (i64.wrap (1+i.1))),Zs,Zs,Zs,Zs]) ?_)))))
 obtain ⟨h,g7,b7,b8,b⟩:=b.box [Zu,Zu,Zu,Zs,Zs,Zs,Zs] 46
 refine wa b7 b8 (bxk b z sI (oJ 7 z oN) fun g8 b=>nt (ww (mv (p0) z ?_)))
 replace b:=b.ah
 obtain ⟨D,b9,c⟩:=bn c
 refine wc call64 [p0,I6 3] z z z (kcI (bu b.to1 b9) fun g9 b=>mi z (nt ?_))
 obtain ⟨c1,c,c2⟩:=bn c
 refine cR (fun a w=>∃ (F:aB) (j:(List Nat)) (f:Value),(qB d i) (F,j)=some r∧fz 68 [0,2,3] [p0,Pt g 0,Pt h 0] a∧St w0 w I [cB p0 F,cells g [Zu,Zu,Zu,Zs,Zs,Zs,Zs],cells h [U6 d.1.ab,U6 d.1.Seq,U6 (u64.wrap (i64.wrap (1+i.1))),f,Zs,Zs,Zs],bp cp f j] R) ?_ ?_
 {
 refine ww (mi z (nt (au ?_)))
 replace b:=b.ba cp
 obtain ⟨c3,c⟩:=aS c
 refine bg (fun n a w=>∃ (m:(List Nat)) (s:aB) (G:Int) (t:Value),cU (ig D) n (m,s,G)=some c1∧fz 68 [0,2,3,4,5] [p0,Pt g 0,Pt h 0,I6 D.1,I6 G] a∧St w0 w I [bp cp t m,cB p0 s,cells h [U6 d.1.ab,U6 d.1.Seq,U6 (u64.wrap (i64.wrap (1+i.1))),t,Zs,Zs,Zs],cells g [Zu,Zu,Zu,Zs,Zs,Zs,Zs]] R) c3 ⟨[],D.2,0,Zs,c,fy z,b⟩ ?_
 rintro h0 _ h1 ⟨m,s,G,t,c,⟨h2,rfl⟩,b⟩
 obtain ⟨h3,h4,rfl,c,Z⟩:=aU c
 dsimp only [ig] at c
 refine aj (ww (mi z (mi z (mb z (nt (bw c z ?_ ?_))))))
 {
 refine fun c4 c=>al (tn (aj (au (rg b 8 [0,1,0,4,12,31,63,127] [] mixed (sF 0 z z fI (sL 1 z z (·.bc2 z) (sz (p0) 2 z z (e1 3 z z fun w b=>?_))))))))
 replace b:=b.ah
 obtain ⟨H,c5,c⟩:=bn c
 refine wec call28 [p0] z z (kcI (fB b.to1 c5) fun h5 b=>wn [1,0] b (pL z z (·.bc2 z) (pF z z fI aT)) (e1 4 z z fun w b=>?_))
 obtain ⟨c6,c7,c8,c9,b⟩:=b.lits (E:=cp) (xs:=[H.1]) [[F6 H.1]] 37 1 z (bT.cons z bT.nil)
 refine cj (v:=(.slice (some ⟨c6,0,none⟩) 1 1)) (w':=c7) z (dH krA c8 c9) (wn [1,0] b (pL z z (·.bc3 z) (pF z z fI aT)) (e1 5 z z fun w b=>?_))
 obtain ⟨d0,c⟩:=cF c
 replace b:=b.aD
 obtain ⟨J,d1,d2,b⟩:=bO ru underlying43 b b.iL (cP d0 z) 43
 refine cj (v:=J) (w':=d1) z (ck z z d2) (w0n b (sF 6 z z fI (e1 7 z z fun w b=>?_)))
 replace b:=b.aA
 refine b1e J b z (oS b.sv1) sI fun h6 b=>w0n b (bt ?_)
 refine fun w b=>bJ (tn (wrl (mi z (mi z (mi z (nt ?_))))))
 cases c
 exact ⟨_,nls,(m++([H.1])),_,_,J,Z,fy z,b.bj.ah.bj.aA.eQ⟩
}
 refine fun c4 c=>bH (aQ (aQ ?_))
 replace c:=bz c Z
 refine cZ (tn ?_)
 cases c
 exact ⟨s,m,t,c2,fy z,b.aD.aA.aA.eQ⟩
}
 rintro _ h7 ⟨F,j,f,c,⟨h8,rfl⟩,b⟩
 dsimp only [qB] at c
 refine ww (mv (p0) z (bk c fun K d3 c=>wc call64 [p0,I6 3] z z z (kcI (bu b.to1 d3) fun h9 b=>mi (Lj deA z z) (mi z (nt ?_)))))
 obtain ⟨d4,c,d5⟩:=bn c
 refine cR (fun a w=>∃ (L:aB) (l:(List (Nat×Nat))) (k:Value),(qy d i j) (L,l)=some r∧fz 68 [0,2,3] [p0,Pt g 0,Pt h 0] a∧St w0 w I [cB p0 L,cells g [Zu,Zu,Zu,Zs,Zs,Zs,Zs],cells h [U6 d.1.ab,U6 d.1.Seq,U6 (u64.wrap (i64.wrap (1+i.1))),f,k,Zs,Zs],bp cp f j,bp fU k l] R) ?_ ?_
 {
 refine ww (mi z (nt (au ?_)))
 replace b:=b.ba fU
 obtain ⟨d6,c⟩:=aS c
 refine bg (fun n a w=>∃ (o:(List (Nat×Nat))) (u:aB) (M:Int) (x:Value),cU (iz K) n (o,u,M)=some d4∧fz 68 [0,2,3,4,6] [p0,Pt g 0,Pt h 0,I6 (i64.wrap (Int.tdiv K.1 2)),I6 M] a∧St w0 w I [bp fU x o,cB p0 u,cells g [Zu,Zu,Zu,Zs,Zs,Zs,Zs],cells h [U6 d.1.ab,U6 d.1.Seq,U6 (u64.wrap (i64.wrap (1+i.1))),f,x,Zs,Zs],bp cp f j] R) d6 ⟨[],K.2,0,Zs,c,fy z,b⟩ ?_
 rintro i0 _ i1 ⟨o,u,M,x,c,⟨i2,rfl⟩,b⟩
 obtain ⟨i3,i4,rfl,c,b0⟩:=aU c
 dsimp only [iz] at c
 refine aj (ww (mi z (mi z (mb z (nt (bw c z ?_ ?_))))))
 {
 refine fun d7 c=>al (tn (aj (au (rg b 11 [0,1,0,4,0,28,60,124,255,511,1023] [] mixed (sF 0 z z fI (sL 1 z z (·.bc3 z) (sz (p0) 2 z z (sz (p0) 4 z z (e1 3 z z fun w b=>?_)))))))))
 replace b:=b.ah
 obtain ⟨y,d8,c⟩:=bn c
 refine wec call28 [p0] z z (kcI (fB b.to1 d8) fun i5 b=>wn [4,1,0] b (pz (pL z z (·.bc3 z) (pF z z fI aT))) (e1 5 z z fun w b=>bk c fun A d9 c=>wec call28 [p0] z z (kcI (fB b.to1 d9) fun i6 b=>wn [1,0] b (pL z z (·.bc3 z) (pF z z fI aT)) (sk (.agg #[F6 y.1,F6 A.1]) 6 z (e1 7 z z fun w b=>?_)))))
 obtain ⟨e0,e2,e3,e4,b⟩:=b.lits (E:=fU) (xs:=[(y.1,A.1)]) [[F6 y.1,F6 A.1]] 80 1 z (bT.cons z bT.nil)
 refine cj (v:=(.slice (some ⟨e0,0,none⟩) 1 1)) (w':=e2) z (dH krA e3 e4) (wn [1,0] b (pL z z (·.bc4 z) (pF z z fI aT)) (e1 8 z z fun w b=>?_))
 obtain ⟨e5,c⟩:=cF c
 replace b:=b.aD
 obtain ⟨N,e6,e7,b⟩:=bO CH underlying44 b b.iL (cP e5 z) 44
 refine cj (v:=N) (w':=e6) z (ck z z e7) (w0n b (sF 9 z z fI (e1 10 z z fun w b=>?_)))
 replace b:=b.bj
 refine b1e N b z (oS b.sv1) sI fun i7 b=>w0n b (bt ?_)
 refine fun w b=>bJ (tn (wrl (mi z (mi z (mi z (nt ?_))))))
 cases c
 exact ⟨_,nls,(o++([(y.1,A.1)])),_,_,N,b0,fy z,b.bq.ah.bq.bq.bj.oB⟩
}
 refine fun d7 c=>bH (aQ (aQ ?_))
 replace c:=bz c b0
 refine cZ (tn ?_)
 cases c
 exact ⟨u,o,x,d5,fy z,b.bj.bj.bj.bj.oB⟩
}
 rintro _ i8 ⟨L,l,k,c,⟨i9,rfl⟩,b⟩
 dsimp only [qy] at c
 refine ww (mv (p0) z (bk c fun O e8 c=>wc call64 [p0,I6 3] z z z (kcI (bu b.to1 e8) fun j0 b=>mi z (nt ?_))))
 obtain ⟨e9,c,f0⟩:=bn c
 refine cR (fun a w=>∃ (P:aB) (Q:(List Nat)) (p:Value),(qu d i j l) (P,Q)=some r∧fz 68 [0,2,3] [p0,Pt g 0,Pt h 0] a∧St w0 w I [cB p0 P,cells g [Zu,Zu,Zu,Zs,Zs,Zs,Zs],cells h [U6 d.1.ab,U6 d.1.Seq,U6 (u64.wrap (i64.wrap (1+i.1))),f,k,p,Zs],bp cp f j,bp fU k l,bp cp p Q] R) ?_ ?_
 {
 refine ww (mi z (nt (au ?_)))
 replace b:=b.ba cp
 obtain ⟨f1,c⟩:=aS c
 refine bg (fun n a w=>∃ (q:(List Nat)) (B:aB) (S:Int) (C:Value),cU (iq O) n (q,B,S)=some e9∧fz 68 [0,2,3,4,7] [p0,Pt g 0,Pt h 0,I6 O.1,I6 S] a∧St w0 w I [bp cp C q,cB p0 B,cells g [Zu,Zu,Zu,Zs,Zs,Zs,Zs],cells h [U6 d.1.ab,U6 d.1.Seq,U6 (u64.wrap (i64.wrap (1+i.1))),f,k,C,Zs],bp cp f j,bp fU k l] R) f1 ⟨[],O.2,0,Zs,c,fy z,b⟩ ?_
 rintro j1 _ j2 ⟨q,B,S,C,c,⟨j3,rfl⟩,b⟩
 obtain ⟨j4,j5,rfl,c,b1⟩:=aU c
 dsimp only [iq] at c
 refine aj (ww (mi z (mi z (mb z (nt (bw c z ?_ ?_))))))
 {
 refine fun f2 c=>al (tn (aj (au (rg b 8 [0,1,0,4,12,31,63,127] [] mixed (sF 0 z z fI (sL 1 z z (·.bc3 z) (sz (p0) 2 z z (e1 3 z z fun w b=>?_))))))))
 replace b:=b.ah
 obtain ⟨T,f3,c⟩:=bn c
 refine wec call28 [p0] z z (kcI (fB b.to1 f3) fun j6 b=>wn [1,0] b (pL z z (·.bc3 z) (pF z z fI aT)) (e1 4 z z fun w b=>?_))
 obtain ⟨f4,f5,f6,f7,b⟩:=b.lits (E:=cp) (xs:=[T.1]) [[F6 T.1]] 37 1 z (bT.cons z bT.nil)
 refine cj (v:=(.slice (some ⟨f4,0,none⟩) 1 1)) (w':=f5) z (dH krA f6 f7) (wn [1,0] b (pL z z (·.bc4 z) (pF z z fI aT)) (e1 5 z z fun w b=>?_))
 obtain ⟨f8,c⟩:=cF c
 replace b:=b.aD
 obtain ⟨U,f9,g0,b⟩:=bO ru underlying43 b b.iL (cP f8 z) 43
 refine cj (v:=U) (w':=f9) z (ck z z g0) (w0n b (sF 6 z z fI (e1 7 z z fun w b=>?_)))
 replace b:=b.bj
 refine b1e U b z (oS b.sv1) sI fun j7 b=>w0n b (bt ?_)
 refine fun w b=>bJ (tn (wrl (mi z (mi z (mi z (nt ?_))))))
 cases c
 exact ⟨_,nls,(q++([T.1])),_,_,U,b1,fy z,b.de.de.aD.de.de.bq.lh⟩
}
 refine fun f2 c=>bH (aQ (aQ ?_))
 replace c:=bz c b1
 refine cZ (tn ?_)
 cases c
 exact ⟨B,q,C,f0,fy z,b.bq.bq.bq.bq.bq.lh⟩
}
 rintro _ j8 ⟨P,Q,p,c,⟨j9,rfl⟩,b⟩
 dsimp only [qu] at c
 refine aj (ww (mv (p0) z (bk c fun k0 g1 c=>wc call64 [p0,I6 4] z z z (kcI (bu b.to1 g1) fun k1 b=>mb z (nt (bw c z ?_ ?_))))))
 {
 refine fun g2 c=>wrl (mv (p0) z (bk c fun k2 g3 c=>wc call66 [p0] z z z (kdJ (nH b.to1 g3) fun b2 k3 b=>mF z fI ?_)))
 replace b:=b.aA
 refine b1k b2 b z (oS b.sv1) sI fun k4 b=>nt (ww (mz (xN z (b.fm 0 tz)) ?_))
 replace b:=b.aA
 refine bxk b z sI (oJ 3 z (oC (oS b.sv4) (oC (oS b.sv5) (oC (oS b.sv6) (oC (oS b.sv2) oN))))) fun k5 b=>nt (ar ?_)
 cases c
 exact prI z (rN z (b.fm 0 tz)) ⟨f,k,p,b2,z,b.aA.aA.de.de.de.oB⟩
}
 refine fun g2 c=>al (tn (ww (mz (xN z (b.ta 0 tz)) ?_)))
 replace b:=b.ah
 refine bxk b z sI (oJ 3 z (oC (oS b.sv3) (oC (oS b.sv4) (oC (oS b.sv5) (oC z oN))))) fun k6 b=>nt (ar ?_)
 replace b:=b.ba (cr .u8)
 cases c
 exact prI z (rN z (b.fO 0 tz)) ⟨f,k,p,Zs,z,b.aD.ah.de.de.de.oB⟩
}
theorem qv {a0:aB} {p0:Value} (b:St w0 w I [cB p0 a0] R) {r:((List bK)×aB)} (c:hY a0=some r) :
  Calls prog 29 #[p0] w fun e w'=>∃ (I':HL) (u:Value),e = .returned (u)∧I.le I'∧St w0 w' I' [bp cG u r.1,cB p0 r.2] R:=by {
 unfold hY at c
 refine c0 func29 z z ?_
 have q:=HL.le.refl I
 refine ww (mv ((.slice none 0 0)) z (nt (ww (mv ((.slice none 0 0)) z (nt (ww (mv (p0) z (bk c fun k D c=>wc call64 [p0,I6 3] z z z (kcI (bu b.to1 D) fun Y b=>mi z (nt (aj (ww (mi z (nt (au ?_)))))))))))))))
 replace b:=b.ba cG
 obtain ⟨F,c⟩:=aS c
 refine bg (fun n a w=>∃ (l:HL) (s:aB) (f:(List bK)) (i:Int) (d:Value),cU (iV k) n (s,f,i)=some r∧fz 31 [0,3,4,5] [p0,d,I6 k.1,I6 i] a∧I.le l∧St w0 w l [bp cG d f,cB p0 s] R) F ⟨_,k.2,[],0,Zs,c,fy z,lr,b⟩ ?_
 rintro Z _ b0 ⟨l,s,f,i,d,c,⟨b1,rfl⟩,m,b⟩
 obtain ⟨b2,G,rfl,c,x⟩:=aU c
 dsimp only [iV] at c
 replace q:=q.trans m
 refine aj (ww (mi z (mi z (mb z (nt (bw c z ?_ ?_))))))
 {
 refine fun H c=>al (tn (aj (au (ww (mv (p0) z ?_)))))
 replace b:=b.ah
 obtain ⟨g,J,c⟩:=bn c
 refine wc call28 [p0] z z z (kcI (fB b.to1 J) fun b3 b=>mv (p0) z (bk c fun h K c=>wc call64 [p0,I6 4] z z z (kcI (bu b.to1 K) fun b4 b=>mb z (mk (.agg #[F6 g.1,.bool (h.1==0),Zs]) ?_))))
 obtain ⟨y,b5,L,M,b⟩:=b.box [Zf,.bool false,Zs] 41
 refine wa L M (bxk b z sI (oJ 3 z oN) fun b6 b=>nt ?_)
 obtain ⟨b7,c,A⟩:=bn c
 refine cR (fun a w=>∃ (o:aB) (j:(List Int)) (p:Value),(ry f g h i) (o,j)=some G∧fz 31 [0,3,4,5,6] [p0,d,I6 k.1,I6 i,Pt y 0] a∧St w0 w l [cB p0 o,bp cG d f,cells y [F6 g.1,.bool (h.1==0),p],bp (cr .u8) p j] R) ?_ ?_
 {
 refine ww (mF z fI (mL z (b.bc0 z) (mb z (nt (bw c z ?_ ?_)))))
 {
 refine fun N c=>wrl (mv (p0) z ?_)
 replace b:=b.ah
 obtain ⟨b8,O,c⟩:=bn c
 refine wc call66 [p0] z z z (kdJ (nH b.to1 O) fun B b9 b=>mF z fI ?_)
 replace b:=b.aD
 refine b1k B b z (oS b.sv1) sI fun c1 b=>nt ?_
 cases c
 exact ⟨_,_,B,A,fy z,b.ah.ah.aA.aA.eQ⟩
}
 refine fun N c=>al (tn ?_)
 cases c
 exact ⟨_,([]),Zs,A,fy z,(b.ba (cr .u8)).ah.aA.aA.eQ⟩
}
 rintro _ c2 ⟨o,j,p,c,⟨c3,rfl⟩,b⟩
 dsimp only [ry] at c
 refine wrl (mv (d) z (mz (xN z (b.ta 0 tz)) ?_))
 replace b:=b.aA
 obtain ⟨c4,P,C,b⟩:=b.cO
 replace m:=m.trans P
 obtain ⟨Q,S,T,U,b⟩:=b.lits (E:=cG) (xs:=[({At:=g.1,Del:=(h.1==0),Val:=j}:bK)]) [[F6 g.1,.bool (h.1==0),p]] 41 1 z (bT.cons ⟨_,z,C,oS (ak C)⟩ bT.nil)
 refine cK (v:=(.slice (some ⟨Q,0,none⟩) 1 1)) (w':=S) z z (dH krA T U) ?_
 obtain ⟨V,c⟩:=cF c
 replace b:=b.aD
 obtain ⟨t,W,X,b⟩:=bO Gx underlying42 b b.iL (cP V z) 42
 refine cK (v:=t) (w':=W) z z (ck z z X) (mv (t) z (dv (bJ (tn (wrl (mi z (mi z (mi z (nt ?_)))))))))
 cases c
 exact ⟨_,nls,_,o,(f++([({At:=g.1,Del:=(h.1==0),Val:=j}:bK)])),_,t,x,fy z,m,b.aD.ah.cv⟩
}
 refine fun H c=>bH (aQ (aQ ?_))
 replace c:=bz c x
 refine cZ (tn (ww (mv (d) z (mv (d) z (nt (ar ?_))))))
 cases c
 exact dI [d] z (rc z bl) ⟨_,d,z,q,b.ah.ah.cv⟩
}
theorem uw {a0:aB} {p0:Value} (b:St w0 w I [cB p0 a0] R) {r:(bB×aB)} (c:jL a0=some r) :
  Calls prog 35 #[p0] w fun e w'=>∃ (I':HL) (c5:Value) (c6:Value),e = .returned (.agg #[I6 r.1.E,U6 r.1.ae,U6 r.1.Index,c5,c6])∧I.le I'∧St w0 w' I' [bp aK c5 r.1.dT,bp (eC aH) c6 r.1.aX,cB p0 r.2] R:=by {
 unfold jL at c
 refine c0 func35 z z ?_
 have y:=HL.le.refl I
 refine ww ?_
 obtain ⟨f,m0,e8,e9,b⟩:=b.box [Zi,Zu,Zu,Zs,Zs] 33
 refine wa e8 e9 (nt (ww ?_))
 obtain ⟨T,f0,f1,f2,b⟩:=b.lits (E:=(cr .i64)) (xs:=[0,0,0,8,9,3]) [[Zi],[Zi],[Zi],[I6 8],[I6 9],[I6 3]] 29 6 z (bT.cons z (bT.cons z (bT.cons z (bT.cons z (bT.cons z (bT.cons z bT.nil))))))
 refine cK (v:=(.slice (some ⟨T,0,none⟩) 6 6)) (w':=f0) z z (dH krA f1 f2) (mv ((.slice (some ⟨T,0,none⟩) 6 6)) z (nt (aj ?_)))
 obtain ⟨m1,c,H⟩:=bn c
 refine vy (fun a w=>∃ (U:aB) (g:Int) (h:Int) (i:Int) (d:Nat),(pt) (U,g,h,i)=some r∧fz 72 [0,2,4] [p0,Pt f 0,Pt d 0] a∧St w0 w I [cB p0 U,cells f [Zi,Zu,Zu,Zs,Zs],cells d [I6 g,U6 h,U6 i,Zs,Zs]] R) ?_ ?_
 {
 refine rg b 14 [0,0,2,7,15,0,38,102,0,358,870,2047,0,8191] [] mixed (sz ((.slice (some ⟨T,0,none⟩) 6 6)) 0 z z (sz (p0) 1 z z (sz (p0) 5 z z (sz (p0) 8 z z (tZ 2 12 krA ?_ ?_)))))
 {
 refine nx z z fun w b=>?_
 replace b:=b.aD
 obtain ⟨m2,f3,c⟩:=bn c
 refine wec call64 [p0,I6 6] z z (kcI (bu b.to1 f3) fun m3 b=>wn [8,5,0] b (pz (pz (pz aT))) ?_)
 obtain ⟨s,f4,c⟩:=bn c
 obtain ⟨k,l,m⟩:=aV f4
 refine sh _ 3 z (fun w b=>aJ z z uI sI b.sv1 k l) (sL 4 z z (fun b=>b.ol1 m riA) (tZ 6 12 krA ?_ ?_))
 {
 refine nx z z fun w b=>bk c fun V f5 c=>wec call64 [p0,I6 4] z z (kcI (bu b.to1 f5) fun m4 b=>wn [4,3,8,0] b (pL z z (fun b=>b.ol1 m riA) (pkr z z (fun w b=>aJ z z uI sI b.sv1 k l) (pz (pz aT)))) ?_)
 refine sk (.int .u64 (u64.wrap V.1)) 7 z (tZ 9 12 krA ?_ ?_)
 {
 refine nx z z fun w b=>bk c fun c7 f6 c=>wec call64 [p0,I6 9] z z (kcI (bu b.to1 f6) fun m5 b=>wn [7,4,3,0] b (pkr z z (fun w b=>by kernel_rfl) (pL z z (fun b=>b.ol1 m riA) (pkr z z (fun w b=>aJ z z uI sI b.sv1 k l) (pz aT)))) ?_)
 refine sk (.int .u64 (u64.wrap c7.1)) 10 z (sk (.agg #[I6 s,U6 (u64.wrap V.1),U6 (u64.wrap c7.1),Zs,Zs]) 11 z (e1 12 z z fun w b=>?_))
 obtain ⟨c8,f7,f8,f9,b⟩:=b.box [Zi,Zu,Zu,Zs,Zs] 33
 refine cj (v:=Pt c8 0) (w':=f7) z (yC krA f8 f9) (wn [11,10,7,4,3,0] b (pkr z z (fun w b=>by kernel_rfl) (pkr z z (fun w b=>by kernel_rfl) (pkr z z (fun w b=>by kernel_rfl) (pL z z (fun b=>b.ol2 m riA) (pkr z z (fun w b=>aJ z z uI sI b.sv2 k l) (pz aT)))))) (e1 13 z z fun w b=>bxe b z sI (oJ 5 z oN) fun m6 b=>w0n b (bt ?_)))
 intro w b
 refine ⟨z,?_⟩
 cases c
 exact ⟨_,s,_,_,c8,H,fy z,b.aA.aD.eu⟩
}
 refine nx z z fun w b=>?_
 obtain ⟨c9,g0,g1,g2,b⟩:=b.box [Zi,Zu,Zu,Zs,Zs] 33
 refine cj (v:=Pt c9 0) (w':=g0) z (yC krA g1 g2) (wn [7,4,3,8,0] b (pkr z z (fun w b=>by kernel_rfl) (pL z z (fun b=>b.ol2 m riA) (pkr z z (fun w b=>aJ z z uI sI b.sv2 k l) (pz (pz aT))))) (e1 9 z z fun w b=>?_))
 replace b:=b.ah
 obtain ⟨d0,g3,c⟩:=bn c
 refine wec call64 [p0,I6 9] z z (kcI (bu b.to1 g3) fun m7 b=>wn [7,4,3,0] b (pkr z z (fun w b=>by kernel_rfl) (pL z z (fun b=>b.ol2 m riA) (pkr z z (fun w b=>aJ z z uI sI b.sv2 k l) (pz aT)))) (sk (.int .u64 (u64.wrap d0.1)) 10 z (sk (.agg #[I6 s,U6 (u64.wrap V.1),U6 (u64.wrap d0.1),Zs,Zs]) 11 z (e1 13 z z fun w b=>?_))))
 replace b:=b.ah
 refine bxe b z sI (oJ 5 z oN) fun m8 b=>w0n b (bt ?_)
 intro w b
 refine ⟨z,?_⟩
 cases c
 exact ⟨_,s,_,_,c9,H,fy z,b.aA.aD.eu⟩
}
 refine nx z z fun w b=>?_
 obtain ⟨d1,g4,g5,g6,b⟩:=b.box [Zi,Zu,Zu,Zs,Zs] 33
 refine cj (v:=Pt d1 0) (w':=g4) z (yC krA g5 g6) (wn [4,3,8,5,0] b (pL z z (fun b=>b.ol2 m riA) (pkr z z (fun w b=>aJ z z uI sI b.sv2 k l) (pz (pz (pz aT))))) (e1 6 z z fun w b=>?_))
 replace b:=b.ah
 obtain ⟨d2,g7,c⟩:=bn c
 refine wec call64 [p0,I6 4] z z (kcI (bu b.to1 g7) fun m9 b=>wn [4,3,8,0] b (pL z z (fun b=>b.ol2 m riA) (pkr z z (fun w b=>aJ z z uI sI b.sv2 k l) (pz (pz aT)))) (sk (.int .u64 (u64.wrap d2.1)) 7 z (e1 9 z z fun w b=>?_)))
 refine bk c fun d3 g8 c=>wec call64 [p0,I6 9] z z (kcI (bu b.to1 g8) fun n0 b=>wn [7,4,3,0] b (pkr z z (fun w b=>by kernel_rfl) (pL z z (fun b=>b.ol2 m riA) (pkr z z (fun w b=>aJ z z uI sI b.sv2 k l) (pz aT)))) ?_)
 refine sk (.int .u64 (u64.wrap d3.1)) 10 z (sk (.agg #[I6 s,U6 (u64.wrap d2.1),U6 (u64.wrap d3.1),Zs,Zs]) 11 z (e1 13 z z fun w b=>?_))
 replace b:=b.ah
 refine bxe b z sI (oJ 5 z oN) fun n1 b=>w0n b (bt ?_)
 intro w b
 refine ⟨z,?_⟩
 cases c
 exact ⟨_,s,_,_,d1,H,fy z,b.aA.aD.eu⟩
}
 refine nx z z fun w b=>?_
 obtain ⟨d4,g9,h0,h1,b⟩:=b.box [Zi,Zu,Zu,Zs,Zs] 33
 refine cj (v:=Pt d4 0) (w':=g9) z (yC krA h0 h1) (wn [8,5,1,0] b (pz (pz (pz (pz aT)))) (e1 2 z z fun w b=>?_))
 replace b:=b.aA
 obtain ⟨n2,h2,c⟩:=bn c
 refine wec call64 [p0,I6 6] z z (kcI (bu b.to1 h2) fun n3 b=>wn [8,5,0] b (pz (pz (pz aT))) ?_)
 obtain ⟨d5,h3,c⟩:=bn c
 obtain ⟨W,X,Y⟩:=aV h3
 refine sh _ 3 z (fun w b=>aJ z z uI sI b.sv2 W X) (sL 4 z z (fun b=>b.ol2 Y riA) (e1 6 z z fun w b=>?_))
 refine bk c fun d6 h4 c=>wec call64 [p0,I6 4] z z (kcI (bu b.to1 h4) fun n4 b=>wn [4,3,8,0] b (pL z z (fun b=>b.ol2 Y riA) (pkr z z (fun w b=>aJ z z uI sI b.sv2 W X) (pz (pz aT)))) ?_)
 refine sk (.int .u64 (u64.wrap d6.1)) 7 z (e1 9 z z fun w b=>bk c fun d7 h5 c=>wec call64 [p0,I6 9] z z (kcI (bu b.to1 h5) fun n5 b=>wn [7,4,3,0] b (pkr z z (fun w b=>by kernel_rfl) (pL z z (fun b=>b.ol2 Y riA) (pkr z z (fun w b=>aJ z z uI sI b.sv2 W X) (pz aT)))) ?_))
 refine sk (.int .u64 (u64.wrap d7.1)) 10 z (sk (.agg #[I6 d5,U6 (u64.wrap d6.1),U6 (u64.wrap d7.1),Zs,Zs]) 11 z (e1 13 z z fun w b=>?_))
 replace b:=b.ah
 refine bxe b z sI (oJ 5 z oN) fun n6 b=>w0n b (bt ?_)
 intro w b
 refine ⟨z,?_⟩
 cases c
 exact ⟨_,d5,_,_,d4,H,fy z,b.aA.aD.eu⟩
}
 rintro _ n7 ⟨U,g,h,i,d,c,⟨n8,rfl⟩,b⟩
 dsimp only [pt] at c
 refine tn (ww (mv (p0) z (bk c fun Z h6 c=>wc call64 [p0,I6 3] z z z (kcI (bu b.to1 h6) fun n9 b=>mi z (nt ?_)))))
 obtain ⟨h7,c,h8⟩:=bn c
 refine cR (fun a w=>∃ (J:HL) (b0:aB) (p:(List cC)) (j:Value),(sc g h i) (b0,p)=some r∧fz 72 [0,2,4] [p0,Pt f 0,Pt d 0] a∧I.le J∧St w0 w J [cB p0 b0,cells f [Zi,Zu,Zu,Zs,Zs],cells d [I6 g,U6 h,U6 i,j,Zs],bp aK j p] R) ?_ ?_
 {
 have b1:=HL.le.refl I
 refine ww (mi z (nt (au ?_)))
 replace b:=b.ba aK
 obtain ⟨h9,c⟩:=aS c
 refine bg (fun n a w=>∃ (b2:HL) (A:(List cC)) (K:aB) (b3:Int) (L:Value),cU (ju Z) n (A,K,b3)=some h7∧fz 72 [0,2,4,5,6] [p0,Pt f 0,Pt d 0,I6 Z.1,I6 b3] a∧I.le b2∧St w0 w b2 [bp aK L A,cB p0 K,cells f [Zi,Zu,Zu,Zs,Zs],cells d [I6 g,U6 h,U6 i,L,Zs]] R) h9 ⟨_,[],Z.2,0,Zs,c,fy z,lr,b⟩ ?_
 rintro o0 _ o1 ⟨b2,A,K,b3,L,c,⟨o2,rfl⟩,M,b⟩
 obtain ⟨o3,o4,rfl,c,d8⟩:=aU c
 dsimp only [ju] at c
 replace b1:=b1.trans M
 refine aj (ww (mi z (mi z (mb z (nt (bw c z ?_ ?_))))))
 {
 refine fun i0 c=>al (tn (aj (au (rg b 12 [0,1,0,4,12,0,44,124,252,511,1023,2047] [] mixed (sF 0 z z fI (sL 1 z z (·.bc3 z) (sz (p0) 2 z z (sz (p0) 5 z z (e1 3 z z fun w b=>?_)))))))))
 replace b:=b.ah
 obtain ⟨N,i1,c⟩:=bn c
 refine wec call64 [p0,I6 2] z z (kcI (bu b.to1 i1) fun o5 b=>wn [5,1,0] b (pz (pL z z (·.bc3 z) (pF z z fI aT))) (sb 4 z z (e1 6 z z fun w b=>bk c fun d9 i2 c=>wec call66 [p0] z z (kdJ (nH b.to1 i2) fun e0 o6 b=>wn [4,1,0] b (pz (pL z z (·.bc4 z) (pF z z fI aT))) (wsr (.agg #[.bool (N.1==0),e0]) 7 rfl rfl rfl krA (fun w b=>by obtain ⟨_,_,hv_,_⟩:=b.sv0; rw [hv_]; kernel_rfl) ?_)))))
 refine e1 8 z z fun w b=>?_
 obtain ⟨o7,i3,e2,b⟩:=b.cO
 replace M:=M.trans i3
 obtain ⟨i4,i5,i6,i7,b⟩:=b.lits (E:=aK) (xs:=[({Has:=(N.1==0),Val:=d9.1}:cC)]) [[.bool (N.1==0),e0]] 61 1 z (bT.cons ⟨_,z,e2,oS (ak e2)⟩ bT.nil)
 refine cj (v:=(.slice (some ⟨i4,0,none⟩) 1 1)) (w':=i5) z (dH krA i6 i7) (wn [1,0] b (pL z z (·.bc4 z) (pF z z fI aT)) (e1 9 z z fun w b=>?_))
 obtain ⟨i8,c⟩:=cF c
 replace b:=b.aD
 obtain ⟨b4,i9,j0,b⟩:=bO Af underlying30 b b.iL (cP i8 z) 30
 refine cj (v:=b4) (w':=i9) z (ck z z j0) (w0n b (sF 10 z z fI (e1 11 z z fun w b=>?_)))
 replace b:=b.bj
 refine b1e b4 b z (oS b.sv1) sI fun o8 b=>w0n b (bt ?_)
 refine fun w b=>bJ (tn (wrl (mi z (mi z (mi z (nt ?_))))))
 cases c
 exact ⟨_,nls,_,(A++([({Has:=(N.1==0),Val:=d9.1}:cC)])),_,_,b4,d8,fy z,M,b.bj.bj.aA.eQ⟩
}
 refine fun i0 c=>bH (aQ (aQ ?_))
 replace c:=bz c d8
 refine cZ (tn ?_)
 cases c
 exact ⟨_,K,A,L,h8,fy z,b1,b.aA.aA.aA.eQ⟩
}
 rintro _ o9 ⟨J,b0,p,j,c,⟨q0,rfl⟩,j1,b⟩
 dsimp only [sc] at c
 replace y:=y.trans j1
 refine ww (mv (p0) z (bk c fun B j2 c=>wc call64 [p0,I6 3] z z z (kcI (bu b.to1 j2) fun q1 b=>mi (Lj deA z z) (mi z (nt (aj (ww (mi z (nt (au ?_))))))))))
 replace b:=b.ba (eC aH)
 obtain ⟨j3,c⟩:=aS c
 refine bg (fun n a w=>∃ (t:HL) (q:(List (List bP))) (b5:aB) (u:Int) (o:Value),cU (jy B g h i p) n (q,b5,u)=some r∧fz 72 [0,2,4,5,7] [p0,Pt f 0,Pt d 0,I6 (i64.wrap (Int.tdiv B.1 2)),I6 u] a∧J.le t∧St w0 w t [bp (eC aH) o q,cB p0 b5,cells f [Zi,Zu,Zu,Zs,Zs],cells d [I6 g,U6 h,U6 i,j,o],bp aK j p] R) j3 ⟨_,[],B.2,0,Zs,c,fy z,lr,b⟩ ?_
 rintro q2 _ q3 ⟨t,q,b5,u,o,c,⟨q4,rfl⟩,x,b⟩
 obtain ⟨q5,j4,rfl,c,e3⟩:=aU c
 dsimp only [jy] at c
 replace y:=y.trans x
 refine aj (ww (mi z (mi z (mb z (nt (bw c z ?_ ?_))))))
 {
 refine fun j5 c=>al (tn (aj (au (ww (mv ((.slice none 0 0)) z (nt (ww (mv (p0) z ?_))))))))
 replace b:=b.ah
 obtain ⟨b6,j6,c⟩:=bn c
 refine wc call64 [p0,I6 3] z z z (kcI (bu b.to1 j6) fun q6 b=>mi z (nt ?_))
 obtain ⟨j7,c,j8⟩:=bn c
 refine cR (fun a w=>∃ (b7:HL) (O:aB) (C:(List bP)) (D:Value),(sm q u) (O,C)=some j4∧fz 72 [0,2,4,5,7,8] [p0,Pt f 0,Pt d 0,I6 (i64.wrap (Int.tdiv B.1 2)),I6 u,D] a∧t.le b7∧St w0 w b7 [cB p0 O,cells f [Zi,Zu,Zu,Zs,Zs],cells d [I6 g,U6 h,U6 i,j,o],bp aK j p,bp (eC aH) o q,bp aH D C] R) ?_ ?_
 {
 have b8:=HL.le.refl t
 refine ww (mi z (nt (au ?_)))
 replace b:=b.ba aH
 obtain ⟨j9,c⟩:=aS c
 refine bg (fun n a w=>∃ (b9:HL) (P:aB) (c1:Int) (F:(List bP)) (G:Value),cU (jE b6) n (P,c1,F)=some j7∧fz 72 [0,2,4,5,7,8,9,10] [p0,Pt f 0,Pt d 0,I6 (i64.wrap (Int.tdiv B.1 2)),I6 u,G,I6 b6.1,I6 c1] a∧t.le b9∧St w0 w b9 [bp aH G F,cB p0 P,bp (eC aH) o q,cells f [Zi,Zu,Zu,Zs,Zs],cells d [I6 g,U6 h,U6 i,j,o],bp aK j p] R) j9 ⟨_,b6.2,0,[],Zs,c,fy z,lr,b⟩ ?_
 rintro q7 _ q8 ⟨b9,P,c1,F,G,c,⟨q9,rfl⟩,Q,b⟩
 obtain ⟨s0,s1,rfl,c,e4⟩:=aU c
 dsimp only [jE] at c
 replace b8:=b8.trans Q
 refine aj (ww (mi z (mi z (mb z (nt (bw c z ?_ ?_))))))
 {
 refine fun k0 c=>al (tn (aj (au (wrl (mv (G) z (mv (p0) z ?_))))))
 replace b:=b.ah
 obtain ⟨S,k1,c⟩:=bn c
 refine wc call28 [p0] z z z (kcI (fB b.to1 k1) fun s2 b=>mv (p0) z (bk c fun e5 k2 c=>wc call66 [p0] z z z (kdJ (nH b.to1 k2) fun e6 s3 b=>wv (.agg #[F6 S.1,e6]) z z (by obtain ⟨_,_,hv_,_⟩:=b.sv0; rw [hv_]; kernel_rfl) ?_)))
 obtain ⟨s4,k3,e7,b⟩:=b.cO
 replace Q:=Q.trans k3
 obtain ⟨k4,k5,k6,k7,b⟩:=b.lits (E:=aH) (xs:=[({At:=S.1,Val:=e5.1}:bP)]) [[F6 S.1,e6]] 152 1 z (bT.cons ⟨_,z,e7,oS (ak e7)⟩ bT.nil)
 refine cK (v:=(.slice (some ⟨k4,0,none⟩) 1 1)) (w':=k5) z z (dH krA k6 k7) ?_
 obtain ⟨k8,c⟩:=cF c
 replace b:=b.aD
 obtain ⟨c2,k9,l0,b⟩:=bO Ak underlying81 b b.iL (cP k8 z) 81
 refine cK (v:=c2) (w':=k9) z z (ck z z l0) (mv (c2) z (dv (bJ (tn (wrl (mi z (mi z (mi z (nt ?_)))))))))
 cases c
 exact ⟨_,nls,_,_,_,(F++([({At:=S.1,Val:=e5.1}:bP)])),c2,e4,fy z,Q,b.de.de.de.de.de.bq.lh⟩
}
 refine fun k0 c=>bH (aQ (aQ ?_))
 replace c:=bz c e4
 refine cZ (tn ?_)
 cases c
 exact ⟨_,P,F,G,j8,fy z,b8,b.aD.bq.bq.bq.bq.lh⟩
}
 rintro _ s5 ⟨b7,O,C,D,c,⟨s6,rfl⟩,l1,b⟩
 dsimp only [sm] at c
 replace x:=x.trans l1
 refine wrl (mF z fI (mL z (b.bc2 z) (mv (D) z ?_)))
 replace b:=b.bq
 obtain ⟨s7,l2,c3,b⟩:=b.cO
 replace x:=x.trans l2
 obtain ⟨l3,l4,l5,l6,b⟩:=b.lits (E:=(eC aH)) (xs:=[C]) [[D]] 81 1 z (bT.cons ⟨_,z,c3,oS (ak c3)⟩ bT.nil)
 refine cK (v:=(.slice (some ⟨l3,0,none⟩) 1 1)) (w':=l4) z z (dH (by obtain ⟨_,_,hv_,_⟩:=(ak c3); rw [hv_]; kernel_rfl) l5 l6) ?_
 obtain ⟨l7,c⟩:=cF c
 replace b:=b.bq
 obtain ⟨c4,l8,l9,b⟩:=bO Ai underlying31 b b.iL (cP l7 z) 31
 refine cK (v:=c4) (w':=l8) z z (ck z z l9) (mF z fI ?_)
 replace b:=b.bj
 refine b1k c4 b z (oS b.sv1) sI fun s8 b=>dv (bJ (tn (wrl (mi z (mi z (mi z (nt ?_)))))))
 cases c
 exact ⟨_,nls,_,(q++([C])),O,_,c4,e3,fy z,x,b.bq.ah.bq.bq.bj.oB⟩
}
 refine fun j5 c=>bH (aQ (aQ ?_))
 replace c:=bz c e3
 refine cZ (tn (ww (mz (xN z (b.ul 0 tz)) ?_)))
 replace b:=b.aD
 refine bxk b z sI (oJ 3 z (oC (oS b.sv4) (oC (oS b.sv1) oN))) fun s9 b=>nt (ar ?_)
 cases c
 exact prI z (rN z (b.fm 0 tz)) ⟨_,j,o,z,y,b.aD.aD.bj.eu⟩
}
theorem uZ {a0:aB} {p0:Value} (a:St w0 w I [cB p0 a0] R) {r:(dV×aB)} (b:nD a0=some r) :
  Calls prog 84 #[p0] w fun e w'=>e = .returned (.agg #[U6 r.1.ID,I6 r.1.dn,I6 r.1.To,F6 r.1.Lo,F6 r.1.Hi,U6 r.1.Authority,I6 r.1.cx])∧St w0 w' I [cB p0 r.2] R:=by {
 unfold nD at b
 refine c0 func84 z z (ww ?_)
 obtain ⟨u,v,f,g,a⟩:=a.box [Zu,Zi,Zi,Zf,Zf,Zu,Zi] 39
 refine wa f g (nt (ww (mv (p0) z ?_)))
 replace a:=a.ah
 obtain ⟨c,h,b⟩:=bn b
 refine wc call64 [p0,I6 3] z z z (kcI (bu a.to1 h) fun x a=>mk (.int .u64 (u64.wrap c.1)) (mv (p0) z (bk b fun i j b=>wc call64 [p0,I6 4] z z z (kcI (bu a.to1 j) fun y a=>mv (p0) z (bk b fun k l b=>wc call64 [p0,I6 4] z z z (kcI (bu a.to1 l) fun A a=>mv (p0) z (bk b fun m n b=>wc call28 [p0] z z z (kcI (fB a.to1 n) fun B a=>mv (p0) z ?_))))))))
 refine bk b fun o p b=>wc call28 [p0] z z z (kcI (fB a.to1 p) fun C a=>mv (p0) z (bk b fun d q b=>wc call64 [p0,I6 2] z z z (kcI (bu a.to1 q) fun D a=>mk (.int .u64 (u64.wrap d.1)) (mv (p0) z (bk b fun s t b=>wc call64 [p0,I6 3] z z z (kcI (bu a.to1 t) fun E a=>mk (.agg #[U6 (u64.wrap c.1),I6 i.1,I6 k.1,F6 m.1,F6 o.1,U6 (u64.wrap d.1),I6 s.1]) ?_))))))
 replace a:=a.ah
 refine bxk a z sI (oJ 7 z oN) fun F a=>nt (ar ?_)
 cases b
 exact prI z (rN z (a.fm 0 tz)) ⟨z,a.ah.bF⟩
}
theorem xB {a0:aB} {p0:Value} (b:St w0 w I [cB p0 a0] R) {r:(aG×aB)} (c:gI a0=some r) :
  Calls prog 38 #[p0] w fun e w'=>∃ (I':HL) (b6:Value) (b7:Value) (b8:Value) (b9:Value) (c1:Value) (c2:Value) (c3:Value) (c4:Value),e = .returned (.agg #[U1 r.1.Kind,U6 r.1.ID.ab,U6 r.1.ID.Seq,U6 r.1.ae,U6 r.1.Index,I6 r.1.E,U6 r.1.br.ID.ab,U6 r.1.br.ID.Seq,U6 r.1.br.ae,b6,b7,b8,b9,c1,I6 r.1.R.E,U6 r.1.R.ae,U6 r.1.R.Index,c2,c3,U6 r.1.bY,c4,U6 r.1.ap.ID,I6 r.1.ap.dn,I6 r.1.ap.To,F6 r.1.ap.Lo,F6 r.1.ap.Hi,U6 r.1.ap.Authority,I6 r.1.ap.cx,.bool r.1.On])∧I.le I'∧St w0 w' I' [bp cp b6 r.1.br.dO,bp fU b7 r.1.br.aX,bp cp b8 r.1.br.dD,bp (cr .u8) b9 r.1.br.Data,bp cG c1 r.1.cw,bp aK c2 r.1.R.dT,bp (eC aH) c3 r.1.R.aX,bp cN c4 r.1.dM,cB p0 r.2] R:=by {
 unfold gI at c
 refine c0 func38 z z ?_
 have h:=HL.le.refl I
 refine ww ?_
 obtain ⟨y,j2,d0,d1,b⟩:=b.box [Zb,Zu,Zu,Zu,Zu,Zi,Zu,Zu,Zu,Zs,Zs,Zs,Zs,Zs,Zi,Zu,Zu,Zs,Zs,Zu,Zs,Zu,Zi,Zi,Zf,Zf,Zu,Zi,.bool false] 49
 refine wa d0 d1 (nt (ww (mv (p0) z ?_)))
 replace b:=b.ah
 obtain ⟨d,d2,c⟩:=bn c
 refine wc call64 [p0,I6 7] z z z (kcI (bu b.to1 d2) fun j3 b=>mi z (mk (.int .u8 (u8.wrap (i64.wrap (1+d.1)))) (mk (.agg #[U1 (u8.wrap (i64.wrap (1+d.1))),Zu,Zu,Zu,Zu,Zi,Zu,Zu,Zu,Zs,Zs,Zs,Zs,Zs,Zi,Zu,Zu,Zs,Zs,Zu,Zs,Zu,Zi,Zi,Zf,Zf,Zu,Zi,.bool false]) ?_)))
 obtain ⟨A,j4,d3,d4,b⟩:=b.box [Zb,Zu,Zu,Zu,Zu,Zi,Zu,Zu,Zu,Zs,Zs,Zs,Zs,Zs,Zi,Zu,Zu,Zs,Zs,Zu,Zs,Zu,Zi,Zi,Zf,Zf,Zu,Zi,.bool false] 49
 refine wa d3 d4 (bxk b z sI (oJ 29 z oN) fun j5 b=>nt (aj (ww (mF z fI (mL z (b.bc0 z) (nt (au (ww (mb z (mb z (nt (bw c z ?_ ?_))))))))))))
 {
 refine fun d5 c=>wrl (mv (p0) z ?_)
 replace b:=b.ah
 obtain ⟨C,d6,c⟩:=bn c
 refine wc call64 [p0,I6 4] z z z (kcI (bu b.to1 d6) fun j6 b=>mi z (mk (.int .u64 (u64.wrap (i64.wrap (1+C.1)))) (mF z fI ?_)))
 replace b:=b.ah
 refine byk (U6 (u64.wrap (i64.wrap (1+C.1)))) b z sI (oC z oN) fun j7 b=>dv (bJ (tn (ww (mz (xN (cs:=[U1 (u8.wrap (i64.wrap (1+d.1))),Zu,Zu,U6 (u64.wrap (i64.wrap (1+C.1))),Zu,Zi,Zu,Zu,Zu,Zs,Zs,Zs,Zs,Zs,Zi,Zu,Zu,Zs,Zs,Zu,Zs,Zu,Zi,Zi,Zf,Zf,Zu,Zi,.bool false]) z (b.fm 0 z)) ?_))))
 replace b:=b.aD
 refine bxk b z sI (oJ 29 z oN) fun j8 b=>nt (ar ?_)
 replace b:=(((((((b.ba cp).ba fU).ba cp).ba (cr .u8)).ba cG).ba aK).ba (eC aH)).ba cN
 cases c
 exact dI [.agg #[U1 (u8.wrap (i64.wrap (1+d.1))),Zu,Zu,U6 (u64.wrap (i64.wrap (1+C.1))),Zu,Zi,Zu,Zu,Zu,Zs,Zs,Zs,Zs,Zs,Zi,Zu,Zu,Zs,Zs,Zu,Zs,Zu,Zi,Zi,Zf,Zf,Zu,Zi,.bool false]] z (ea (rN (cs:=[U1 (u8.wrap (i64.wrap (1+d.1))),Zu,Zu,U6 (u64.wrap (i64.wrap (1+C.1))),Zu,Zi,Zu,Zu,Zu,Zs,Zs,Zs,Zs,Zs,Zi,Zu,Zu,Zs,Zs,Zu,Zs,Zu,Zi,Zi,Zf,Zf,Zu,Zi,.bool false]) z (b.Bk 0 z)) bl) ⟨_,Zs,Zs,Zs,Zs,Zs,Zs,Zs,Zs,z,h,b.bR.ah.aD.aA.bj.bq.de.aW.bM.tU⟩
}
 refine fun d5 c=>ww (mb z (mb z (nt (bw c z ?_ ?_))))
 {
 refine fun d7 c=>wrl (mv (p0) z ?_)
 replace b:=b.ah
 obtain ⟨i,d8,c⟩:=bn c
 refine wc call83 [p0] z z z ((xx b.to1 d8).mono ?_)
 rintro _ j9 ⟨D,F,G,H,rfl,b⟩
 refine ⟨_,z,?_⟩
 replace b:=b.of5
 refine mF z fI ?_
 replace b:=b.bq
 refine byk (.agg #[U6 i.1.ID.ab,U6 i.1.ID.Seq,U6 i.1.ae,D,F,G,H]) b z sI (oJ 3 z (oC (oS b.sv1) (oC (oS b.sv2) (oC (oS b.sv3) (oC (oS b.sv4) oN))))) fun k0 b=>dv (bJ (tn (ww (mz (xN (cs:=[U1 (u8.wrap (i64.wrap (1+d.1))),Zu,Zu,Zu,Zu,Zi,U6 i.1.ID.ab,U6 i.1.ID.Seq,U6 i.1.ae,D,F,G,H,Zs,Zi,Zu,Zu,Zs,Zs,Zu,Zs,Zu,Zi,Zi,Zf,Zf,Zu,Zi,.bool false]) z (b.fm 0 z)) ?_))))
 replace b:=b.de
 refine bxk b z sI (oJ 9 z (oC (oS b.sv2) (oC (oS b.sv3) (oC (oS b.sv4) (oC (oS b.sv5) (oJ 16 z oN)))))) fun k1 b=>nt (ar ?_)
 replace b:=(((b.ba cG).ba aK).ba (eC aH)).ba cN
 cases c
 exact dI [.agg #[U1 (u8.wrap (i64.wrap (1+d.1))),Zu,Zu,Zu,Zu,Zi,U6 i.1.ID.ab,U6 i.1.ID.Seq,U6 i.1.ae,D,F,G,H,Zs,Zi,Zu,Zu,Zs,Zs,Zu,Zs,Zu,Zi,Zi,Zf,Zf,Zu,Zi,.bool false]] z (ea (rN (cs:=[U1 (u8.wrap (i64.wrap (1+d.1))),Zu,Zu,Zu,Zu,Zi,U6 i.1.ID.ab,U6 i.1.ID.Seq,U6 i.1.ae,D,F,G,H,Zs,Zi,Zu,Zu,Zs,Zs,Zu,Zs,Zu,Zi,Zi,Zf,Zf,Zu,Zi,.bool false]) z (b.BI 0 z)) bl) ⟨_,D,F,G,H,Zs,Zs,Zs,Zs,z,h,b.bR.ah.aD.aA.bj.bR.bR.bR.bR.tU⟩
}
 refine fun d7 c=>ww (mb z (mb z (nt (bw c z ?_ ?_))))
 {
 refine fun d9 c=>ww (mv (p0) z ?_)
 replace b:=b.ah
 obtain ⟨o,e0,c⟩:=bn c
 refine wc call27 [p0] z z z (kcI (mh b.to1 e0) fun k2 b=>mF z fI ?_)
 replace b:=b.ah
 refine byk (.agg #[U6 o.1.ab,U6 o.1.Seq]) b z sI (oC z (oC z oN)) fun k3 b=>nt (ww ?_)
 obtain ⟨e2,e3,e4,e5,b⟩:=b.lits (E:=(cr .i64)) (xs:=[0,0,8]) [[Zi],[Zi],[I6 8]] 29 3 z (bT.cons z (bT.cons z (bT.cons z bT.nil)))
 refine cK (v:=(.slice (some ⟨e2,0,none⟩) 3 3)) (w':=e3) z z (dH krA e4 e5) (mv (p0) z ?_)
 replace b:=b.aD
 obtain ⟨k4,e6,c⟩:=bn c
 refine wc call64 [p0,I6 3] z z z (kcI (bu b.to1 e6) fun k5 b=>?_)
 obtain ⟨U,e7,c⟩:=bn c
 obtain ⟨e8,e9,f0⟩:=aV e7
 refine mz (aJ z z uI sI b.sv1 e8 e9) (mL z (b.ol1 f0 riA) (mF z fI ?_))
 replace b:=b.aD
 refine byk (I6 U) b z sI (oC z oN) fun k6 b=>nt (ww (mv (p0) z ?_))
 replace b:=b.ah
 obtain ⟨J,f1,c⟩:=bn c
 refine wc call64 [p0,I6 4] z z z (kcI (bu b.to1 f1) fun k7 b=>mi z (mk (.int .u64 (u64.wrap (i64.wrap (1+J.1)))) (mF z fI ?_)))
 replace b:=b.ah
 refine byk (U6 (u64.wrap (i64.wrap (1+J.1)))) b z sI (oC z oN) fun k8 b=>nt (ww (mv (p0) z ?_))
 replace b:=b.ah
 obtain ⟨K,f2,c⟩:=bn c
 refine wc call64 [p0,I6 20] z z z (kcI (bu b.to1 f2) fun k9 b=>mk (.int .u64 (u64.wrap K.1)) (mF z fI ?_))
 replace b:=b.ah
 refine byk (U6 (u64.wrap K.1)) b z sI (oC z oN) fun l0 b=>nt (wrl (mv (p0) z ?_))
 replace b:=b.ah
 obtain ⟨l1,f3,c⟩:=bn c
 refine wc call29 [p0] z z z ((qv b.to1 f3).mono ?_)
 rintro _ l2 ⟨l3,L,rfl,f4,b⟩
 refine ⟨_,z,?_⟩
 replace b:=b.of2
 replace h:=h.trans f4
 refine mF z fI ?_
 replace b:=b.aD
 refine b1k L b z (oS b.sv1) sI fun l4 b=>dv (bJ (tn (ww (mz (xN (cs:=[U1 (u8.wrap (i64.wrap (1+d.1))),U6 o.1.ab,U6 o.1.Seq,U6 (u64.wrap (i64.wrap (1+J.1))),U6 (u64.wrap K.1),I6 U,Zu,Zu,Zu,Zs,Zs,Zs,Zs,L,Zi,Zu,Zu,Zs,Zs,Zu,Zs,Zu,Zi,Zi,Zf,Zf,Zu,Zi,.bool false]) z (b.fm 0 z)) ?_))))
 replace b:=b.bj
 refine bxk b z sI (oJ 13 z (oC (oS b.sv2) (oJ 15 z oN))) fun l5 b=>nt (ar ?_)
 replace b:=((((((b.ba cp).ba fU).ba cp).ba (cr .u8)).ba aK).ba (eC aH)).ba cN
 cases c
 exact dI [.agg #[U1 (u8.wrap (i64.wrap (1+d.1))),U6 o.1.ab,U6 o.1.Seq,U6 (u64.wrap (i64.wrap (1+J.1))),U6 (u64.wrap K.1),I6 U,Zu,Zu,Zu,Zs,Zs,Zs,Zs,L,Zi,Zu,Zu,Zs,Zs,Zu,Zs,Zu,Zi,Zi,Zf,Zf,Zu,Zi,.bool false]] z (ea (rN (cs:=[U1 (u8.wrap (i64.wrap (1+d.1))),U6 o.1.ab,U6 o.1.Seq,U6 (u64.wrap (i64.wrap (1+J.1))),U6 (u64.wrap K.1),I6 U,Zu,Zu,Zu,Zs,Zs,Zs,Zs,L,Zi,Zu,Zu,Zs,Zs,Zu,Zs,Zu,Zi,Zi,Zf,Zf,Zu,Zi,.bool false]) z (b.MR 0 z)) bl) ⟨_,Zs,Zs,Zs,Zs,L,Zs,Zs,Zs,z,h,b.bR.ah.aD.aA.bR.bq.de.aW.bM.tU⟩
}
 refine fun d9 c=>ww (mb z (mb z (nt (bw c z ?_ ?_))))
 {
 refine fun f5 c=>ww (mv (p0) z ?_)
 replace b:=b.ah
 obtain ⟨l,f6,c⟩:=bn c
 refine wc call27 [p0] z z z (kcI (mh b.to1 f6) fun l6 b=>mF z fI ?_)
 replace b:=b.ah
 refine byk (.agg #[U6 l.1.ab,U6 l.1.Seq]) b z sI (oC z (oC z oN)) fun l7 b=>nt ?_
 obtain ⟨l8,c,c5⟩:=bn c
 refine cR (fun a w=>∃ (Y:aB) (m:Int),(lz d l) (Y,m)=some r∧fz 124 [0,2,3] [p0,Pt y 0,Pt A 0] a∧St w0 w I [cB p0 Y,cells y [Zb,Zu,Zu,Zu,Zu,Zi,Zu,Zu,Zu,Zs,Zs,Zs,Zs,Zs,Zi,Zu,Zu,Zs,Zs,Zu,Zs,Zu,Zi,Zi,Zf,Zf,Zu,Zi,.bool false],cells A [U1 (u8.wrap (i64.wrap (1+d.1))),U6 m,U6 l.1.Seq,Zu,Zu,Zi,Zu,Zu,Zu,Zs,Zs,Zs,Zs,Zs,Zi,Zu,Zu,Zs,Zs,Zu,Zs,Zu,Zi,Zi,Zf,Zf,Zu,Zi,.bool false]] R) ?_ ?_
 {
 refine ww (mv (p0) z ?_)
 replace b:=b.ah
 obtain ⟨l9,f7,c⟩:=bn c
 refine wc call64 [p0,I6 6] z z z (kcI (bu b.to1 f7) fun m0 b=>mb z (nt (bw c z ?_ ?_)))
 {
 refine fun f8 c=>wrl (mF z fI (mF z fI (mL z (b.bc1 z) (mi z (mF z fI (mF z fI ?_))))))
 replace b:=b.ah
 refine byk (U6 (u64.wrap (l.1.ab+9223372036854775808))) b z sI (oC z oN) fun m1 b=>nt ?_
 cases c
 exact ⟨_,_,c5,fy z,b.aD.aD.eu⟩
}
 refine fun f8 c=>al (tn ?_)
 cases c
 exact ⟨_,_,c5,fy z,b.ah.aD.aD.eu⟩
}
 rintro _ m2 ⟨Y,m,c,⟨m3,rfl⟩,b⟩
 dsimp only [lz] at c
 refine ww (mv (p0) z (bk c fun p f9 c=>wc call64 [p0,I6 4] z z z (kcI (bu b.to1 f9) fun m4 b=>mi z (mk (.int .u64 (u64.wrap (i64.wrap (1+p.1)))) (mF z fI ?_)))))
 replace b:=b.aD
 refine byk (U6 (u64.wrap (i64.wrap (1+p.1)))) b z sI (oC z oN) fun m5 b=>nt (ww (mv (p0) z ?_))
 replace b:=b.ah
 obtain ⟨q,g0,c⟩:=bn c
 refine wc call64 [p0,I6 4] z z z (kcI (bu b.to1 g0) fun m6 b=>mk (.int .u64 (u64.wrap q.1)) (mF z fI ?_))
 replace b:=b.ah
 refine byk (U6 (u64.wrap q.1)) b z sI (oC z oN) fun m7 b=>nt (ww (mv (p0) z ?_))
 replace b:=b.ah
 obtain ⟨Z,g1,c⟩:=bn c
 refine wc call64 [p0,I6 3] z z z (kcI (bu b.to1 g1) fun m8 b=>mi z (nt ?_))
 obtain ⟨g2,c,g3⟩:=bn c
 refine cR (fun a w=>∃ (b0:HL) (b1:aB) (b2:(List dN)) (u:Value),(qC d m l p q) (b1,b2)=some r∧fz 124 [0,2,3] [p0,Pt y 0,Pt A 0] a∧I.le b0∧St w0 w b0 [cB p0 b1,cells y [Zb,Zu,Zu,Zu,Zu,Zi,Zu,Zu,Zu,Zs,Zs,Zs,Zs,Zs,Zi,Zu,Zu,Zs,Zs,Zu,Zs,Zu,Zi,Zi,Zf,Zf,Zu,Zi,.bool false],cells A [U1 (u8.wrap (i64.wrap (1+d.1))),U6 m,U6 l.1.Seq,U6 (u64.wrap (i64.wrap (1+p.1))),Zu,Zi,Zu,Zu,Zu,Zs,Zs,Zs,Zs,Zs,Zi,Zu,Zu,Zs,Zs,U6 (u64.wrap q.1),u,Zu,Zi,Zi,Zf,Zf,Zu,Zi,.bool false],bp cN u b2] R) ?_ ?_
 {
 have b3:=HL.le.refl I
 refine ww (mi z (nt (au ?_)))
 replace b:=b.ba cN
 obtain ⟨g4,c⟩:=aS c
 refine bg (fun n a w=>∃ (b4:HL) (M:(List dN)) (V:aB) (x:Int) (W:Value),cU (fh Z) n (M,V,x)=some g2∧fz 124 [0,2,3,4,5] [p0,Pt y 0,Pt A 0,I6 Z.1,I6 x] a∧I.le b4∧St w0 w b4 [bp cN W M,cB p0 V,cells A [U1 (u8.wrap (i64.wrap (1+d.1))),U6 m,U6 l.1.Seq,U6 (u64.wrap (i64.wrap (1+p.1))),Zu,Zi,Zu,Zu,Zu,Zs,Zs,Zs,Zs,Zs,Zi,Zu,Zu,Zs,Zs,U6 (u64.wrap q.1),W,Zu,Zi,Zi,Zf,Zf,Zu,Zi,.bool false],cells y [Zb,Zu,Zu,Zu,Zu,Zi,Zu,Zu,Zu,Zs,Zs,Zs,Zs,Zs,Zi,Zu,Zu,Zs,Zs,Zu,Zs,Zu,Zi,Zi,Zf,Zf,Zu,Zi,.bool false]] R) g4 ⟨_,[],Z.2,0,Zs,c,fy z,lr,b⟩ ?_
 rintro m9 _ n0 ⟨b4,M,V,x,W,c,⟨n1,rfl⟩,B,b⟩
 obtain ⟨n2,n3,rfl,c,c6⟩:=aU c
 dsimp only [fh] at c
 replace b3:=b3.trans B
 refine aj (ww (mi z (mi z (mb z (nt (bw c z ?_ ?_))))))
 {
 refine fun g5 c=>al (tn (aj (au (rg b 10 [0,1,0,0,8,28,60,127,255,511] [] mixed (sF 0 z z fI (sL 1 z z (·.bc2 z) (si 2 z z (sz (p0) 3 z z (e1 4 z z fun w b=>?_)))))))))
 replace b:=b.ah
 obtain ⟨c7,g6,c⟩:=bn c
 refine wec call29 [p0] z z ((qv b.to1 g6).mono ?_)
 rintro _ n4 ⟨n5,c8,rfl,g7,b⟩
 refine ⟨_,z,?_⟩
 replace b:=b.of2
 replace B:=B.trans g7
 refine wn [2,1,0] b (pz (pL z z (·.bc3 z) (pF z z fI aT))) (wsr (.agg #[I6 x,c8]) 5 rfl rfl rfl krA (fun w b=>by obtain ⟨_,_,hv_,_⟩:=b.sv0; rw [hv_]; kernel_rfl) (e1 6 z z fun w b=>?_))
 obtain ⟨n6,g8,c9,b⟩:=b.cO
 replace B:=B.trans g8
 obtain ⟨g9,h0,h1,h2,b⟩:=b.lits (E:=cN) (xs:=[({oD:=x,cw:=c7.1}:dN)]) [[I6 x,c8]] 156 1 z (bT.cons ⟨_,z,c9,oS (ak c9)⟩ bT.nil)
 refine cj (v:=(.slice (some ⟨g9,0,none⟩) 1 1)) (w':=h0) z (dH krA h1 h2) (wn [1,0] b (pL z z (·.bc3 z) (pF z z fI aT)) (e1 7 z z fun w b=>?_))
 obtain ⟨h3,c⟩:=cF c
 replace b:=b.aD
 obtain ⟨b5,h4,h5,b⟩:=bO Cw underlying47 b b.iL (cP h3 z) 47
 refine cj (v:=b5) (w':=h4) z (ck z z h5) (w0n b (sF 8 z z fI (e1 9 z z fun w b=>?_)))
 replace b:=b.aA
 refine b1e b5 b z (oS b.sv1) sI fun n7 b=>w0n b (bt ?_)
 refine fun w b=>bJ (tn (wrl (mi z (mi z (mi z (nt ?_))))))
 cases c
 exact ⟨_,nls,_,(M++([({oD:=x,cw:=c7.1}:dN)])),_,_,b5,c6,fy z,B,b.bj.ah.bj.aA.eQ⟩
}
 refine fun g5 c=>bH (aQ (aQ ?_))
 replace c:=bz c c6
 refine cZ (tn ?_)
 cases c
 exact ⟨_,V,M,W,g3,fy z,b3,b.aD.aA.aA.eQ⟩
}
 rintro _ n8 ⟨b0,b1,b2,u,c,⟨n9,rfl⟩,h6,b⟩
 dsimp only [qC] at c
 replace h:=h.trans h6
 refine wrl (mv (p0) z (bk c fun j h7 c=>wc call35 [p0] z z z ((uw b.to1 h7).mono ?_)))
 rintro _ o0 ⟨o1,N,O,rfl,h8,b⟩
 refine ⟨_,z,?_⟩
 replace b:=b.of3
 replace h:=h.trans h8
 refine mF z fI ?_
 replace b:=b.bj
 refine byk (.agg #[I6 j.1.E,U6 j.1.ae,U6 j.1.Index,N,O]) b z sI (oJ 3 z (oC (oS b.sv1) (oC (oS b.sv2) oN))) fun o2 b=>dv (bJ (tn (ww (mz (xN (cs:=[U1 (u8.wrap (i64.wrap (1+d.1))),U6 m,U6 l.1.Seq,U6 (u64.wrap (i64.wrap (1+p.1))),Zu,Zi,Zu,Zu,Zu,Zs,Zs,Zs,Zs,Zs,I6 j.1.E,U6 j.1.ae,U6 j.1.Index,N,O,U6 (u64.wrap q.1),u,Zu,Zi,Zi,Zf,Zf,Zu,Zi,.bool false]) z (b.fm 0 z)) ?_))))
 replace b:=b.bj
 refine bxk b z sI (oJ 17 z (oC (oS b.sv2) (oC (oS b.sv3) (oC z (oC (oS b.sv5) (oJ 8 z oN)))))) fun o3 b=>nt (ar ?_)
 replace b:=((((b.ba cp).ba fU).ba cp).ba (cr .u8)).ba cG
 cases c
 exact dI [.agg #[U1 (u8.wrap (i64.wrap (1+d.1))),U6 m,U6 l.1.Seq,U6 (u64.wrap (i64.wrap (1+p.1))),Zu,Zi,Zu,Zu,Zu,Zs,Zs,Zs,Zs,Zs,I6 j.1.E,U6 j.1.ae,U6 j.1.Index,N,O,U6 (u64.wrap q.1),u,Zu,Zi,Zi,Zf,Zf,Zu,Zi,.bool false]] z (ea (rN (cs:=[U1 (u8.wrap (i64.wrap (1+d.1))),U6 m,U6 l.1.Seq,U6 (u64.wrap (i64.wrap (1+p.1))),Zu,Zi,Zu,Zu,Zu,Zs,Zs,Zs,Zs,Zs,I6 j.1.E,U6 j.1.ae,U6 j.1.Index,N,O,U6 (u64.wrap q.1),u,Zu,Zi,Zi,Zf,Zf,Zu,Zi,.bool false]) z (b.CT 0 z)) bl) ⟨_,Zs,Zs,Zs,Zs,Zs,N,O,u,z,h,b.ca.bR.bR.bR.bj.bq.de.aW.bM.tU⟩
}
 refine fun f5 c=>ww (mb z (mb z (nt (bw c z ?_ ?_))))
 {
 refine fun h9 c=>wrl (mv (p0) z ?_)
 replace b:=b.ah
 obtain ⟨s,i0,c⟩:=bn c
 refine wc call27 [p0] z z z (kcI (mh b.to1 i0) fun o4 b=>mF z fI ?_)
 replace b:=b.ah
 refine byk (.agg #[U6 s.1.ab,U6 s.1.Seq]) b z sI (oC z (oC z oN)) fun o5 b=>dv (bJ (tn (ww (mz (xN (cs:=[U1 (u8.wrap (i64.wrap (1+d.1))),U6 s.1.ab,U6 s.1.Seq,Zu,Zu,Zi,Zu,Zu,Zu,Zs,Zs,Zs,Zs,Zs,Zi,Zu,Zu,Zs,Zs,Zu,Zs,Zu,Zi,Zi,Zf,Zf,Zu,Zi,.bool false]) z (b.fm 0 z)) ?_))))
 replace b:=b.aD
 refine bxk b z sI (oJ 29 z oN) fun o6 b=>nt (ar ?_)
 replace b:=(((((((b.ba cp).ba fU).ba cp).ba (cr .u8)).ba cG).ba aK).ba (eC aH)).ba cN
 cases c
 exact dI [.agg #[U1 (u8.wrap (i64.wrap (1+d.1))),U6 s.1.ab,U6 s.1.Seq,Zu,Zu,Zi,Zu,Zu,Zu,Zs,Zs,Zs,Zs,Zs,Zi,Zu,Zu,Zs,Zs,Zu,Zs,Zu,Zi,Zi,Zf,Zf,Zu,Zi,.bool false]] z (ea (rN (cs:=[U1 (u8.wrap (i64.wrap (1+d.1))),U6 s.1.ab,U6 s.1.Seq,Zu,Zu,Zi,Zu,Zu,Zu,Zs,Zs,Zs,Zs,Zs,Zi,Zu,Zu,Zs,Zs,Zu,Zs,Zu,Zi,Zi,Zf,Zf,Zu,Zi,.bool false]) z (b.Bk 0 z)) bl) ⟨_,Zs,Zs,Zs,Zs,Zs,Zs,Zs,Zs,z,h,b.bR.ah.aD.aA.bj.bq.de.aW.bM.tU⟩
}
 refine fun h9 c=>ww (mb z (mb z (nt (bw c z ?_ ?_))))
 {
 refine fun i1 c=>ww (mv (p0) z ?_)
 replace b:=b.ah
 obtain ⟨f,i2,c⟩:=bn c
 refine wc call84 [p0] z z z (kcI (uZ b.to1 i2) fun o7 b=>mF z fI ?_)
 replace b:=b.ah
 refine byk (.agg #[U6 f.1.ID,I6 f.1.dn,I6 f.1.To,F6 f.1.Lo,F6 f.1.Hi,U6 f.1.Authority,I6 f.1.cx]) b z sI (oJ 7 z oN) fun o8 b=>nt (wrl (mv (p0) z ?_))
 replace b:=b.ah
 obtain ⟨X,i3,c⟩:=bn c
 refine wc call64 [p0,I6 3] z z z (kcI (bu b.to1 i3) fun o9 b=>mb z (mF z fI ?_))
 replace b:=b.ah
 refine byk (.bool (decide (X.1>0))) b z sI (oC z oN) fun q0 b=>dv (bJ (tn (ww (mz (xN (cs:=[U1 (u8.wrap (i64.wrap (1+d.1))),Zu,Zu,Zu,Zu,Zi,Zu,Zu,Zu,Zs,Zs,Zs,Zs,Zs,Zi,Zu,Zu,Zs,Zs,Zu,Zs,U6 f.1.ID,I6 f.1.dn,I6 f.1.To,F6 f.1.Lo,F6 f.1.Hi,U6 f.1.Authority,I6 f.1.cx,.bool (decide (X.1>0))]) z (b.fm 0 z)) ?_))))
 replace b:=b.aD
 refine bxk b z sI (oJ 29 z oN) fun q1 b=>nt (ar ?_)
 replace b:=(((((((b.ba cp).ba fU).ba cp).ba (cr .u8)).ba cG).ba aK).ba (eC aH)).ba cN
 cases c
 exact dI [.agg #[U1 (u8.wrap (i64.wrap (1+d.1))),Zu,Zu,Zu,Zu,Zi,Zu,Zu,Zu,Zs,Zs,Zs,Zs,Zs,Zi,Zu,Zu,Zs,Zs,Zu,Zs,U6 f.1.ID,I6 f.1.dn,I6 f.1.To,F6 f.1.Lo,F6 f.1.Hi,U6 f.1.Authority,I6 f.1.cx,.bool (decide (X.1>0))]] z (ea (rN (cs:=[U1 (u8.wrap (i64.wrap (1+d.1))),Zu,Zu,Zu,Zu,Zi,Zu,Zu,Zu,Zs,Zs,Zs,Zs,Zs,Zi,Zu,Zu,Zs,Zs,Zu,Zs,U6 f.1.ID,I6 f.1.dn,I6 f.1.To,F6 f.1.Lo,F6 f.1.Hi,U6 f.1.Authority,I6 f.1.cx,.bool (decide (X.1>0))]) z (b.Bk 0 z)) bl) ⟨_,Zs,Zs,Zs,Zs,Zs,Zs,Zs,Zs,z,h,b.bR.ah.aD.aA.bj.bq.de.aW.bM.tU⟩
}
 refine fun i1 c=>ww (mb z (mb z (nt (bw c z ?_ ?_))))
 {
 refine fun i4 c=>ww (mv (p0) z ?_)
 replace b:=b.ah
 obtain ⟨t,i5,c⟩:=bn c
 refine wc call27 [p0] z z z (kcI (mh b.to1 i5) fun q2 b=>mF z fI ?_)
 replace b:=b.ah
 refine byk (.agg #[U6 t.1.ab,U6 t.1.Seq]) b z sI (oC z (oC z oN)) fun q3 b=>nt (ww (mv (p0) z ?_))
 replace b:=b.ah
 obtain ⟨P,i6,c⟩:=bn c
 refine wc call64 [p0,I6 4] z z z (kcI (bu b.to1 i6) fun q4 b=>mi z (mk (.int .u64 (u64.wrap (i64.wrap (1+P.1)))) (mF z fI ?_)))
 replace b:=b.ah
 refine byk (U6 (u64.wrap (i64.wrap (1+P.1)))) b z sI (oC z oN) fun q5 b=>nt (ww (mv (p0) z ?_))
 replace b:=b.ah
 obtain ⟨g,i7,c⟩:=bn c
 refine wc call84 [p0] z z z (kcI (uZ b.to1 i7) fun q6 b=>mF z fI ?_)
 replace b:=b.ah
 refine byk (.agg #[U6 g.1.ID,I6 g.1.dn,I6 g.1.To,F6 g.1.Lo,F6 g.1.Hi,U6 g.1.Authority,I6 g.1.cx]) b z sI (oJ 7 z oN) fun q7 b=>nt (ww (mv (p0) z ?_))
 replace b:=b.ah
 obtain ⟨q8,i8,c⟩:=bn c
 refine wc call29 [p0] z z z ((qv b.to1 i8).mono ?_)
 rintro _ q9 ⟨s0,Q,rfl,i9,b⟩
 refine ⟨_,z,?_⟩
 replace b:=b.of2
 replace h:=h.trans i9
 refine mF z fI ?_
 replace b:=b.aD
 refine b1k Q b z (oS b.sv1) sI fun s1 b=>nt (wrl (mv (p0) z ?_))
 replace b:=b.aD
 obtain ⟨k,j0,c⟩:=bn c
 refine wc call35 [p0] z z z ((uw b.to1 j0).mono ?_)
 rintro _ s2 ⟨s3,S,T,rfl,j1,b⟩
 refine ⟨_,z,?_⟩
 replace b:=b.of3
 replace h:=h.trans j1
 refine mF z fI ?_
 replace b:=b.aA
 refine byk (.agg #[I6 k.1.E,U6 k.1.ae,U6 k.1.Index,S,T]) b z sI (oJ 3 z (oC (oS b.sv1) (oC (oS b.sv2) oN))) fun s4 b=>dv (bJ (tn (ww (mz (xN (cs:=[U1 (u8.wrap (i64.wrap (1+d.1))),U6 t.1.ab,U6 t.1.Seq,U6 (u64.wrap (i64.wrap (1+P.1))),Zu,Zi,Zu,Zu,Zu,Zs,Zs,Zs,Zs,Q,I6 k.1.E,U6 k.1.ae,U6 k.1.Index,S,T,Zu,Zs,U6 g.1.ID,I6 g.1.dn,I6 g.1.To,F6 g.1.Lo,F6 g.1.Hi,U6 g.1.Authority,I6 g.1.cx,.bool false]) z (b.fm 0 z)) ?_))))
 replace b:=b.bq
 refine bxk b z sI (oJ 13 z (oC (oS b.sv5) (oJ 3 z (oC (oS b.sv2) (oC (oS b.sv3) (oJ 10 z oN)))))) fun s5 b=>nt (ar ?_)
 replace b:=((((b.ba cp).ba fU).ba cp).ba (cr .u8)).ba cN
 cases c
 exact dI [.agg #[U1 (u8.wrap (i64.wrap (1+d.1))),U6 t.1.ab,U6 t.1.Seq,U6 (u64.wrap (i64.wrap (1+P.1))),Zu,Zi,Zu,Zu,Zu,Zs,Zs,Zs,Zs,Q,I6 k.1.E,U6 k.1.ae,U6 k.1.Index,S,T,Zu,Zs,U6 g.1.ID,I6 g.1.dn,I6 g.1.To,F6 g.1.Lo,F6 g.1.Hi,U6 g.1.Authority,I6 g.1.cx,.bool false]] z (ea (rN (cs:=[U1 (u8.wrap (i64.wrap (1+d.1))),U6 t.1.ab,U6 t.1.Seq,U6 (u64.wrap (i64.wrap (1+P.1))),Zu,Zi,Zu,Zu,Zu,Zs,Zs,Zs,Zs,Q,I6 k.1.E,U6 k.1.ae,U6 k.1.Index,S,T,Zu,Zs,U6 g.1.ID,I6 g.1.dn,I6 g.1.To,F6 g.1.Lo,F6 g.1.Hi,U6 g.1.Authority,I6 g.1.cx,.bool false]) z (b.CT 0 z)) bl) ⟨_,Zs,Zs,Zs,Zs,Q,S,T,Zs,z,h,b.ca.ah.ca.ca.bR.bq.de.aW.bM.tU⟩
}
 refine fun i4 c=>al (bJ (tn (ww (mz (xN (cs:=[U1 (u8.wrap (i64.wrap (1+d.1))),Zu,Zu,Zu,Zu,Zi,Zu,Zu,Zu,Zs,Zs,Zs,Zs,Zs,Zi,Zu,Zu,Zs,Zs,Zu,Zs,Zu,Zi,Zi,Zf,Zf,Zu,Zi,.bool false]) z (b.fm 0 z)) ?_))))
 replace b:=b.aD
 refine bxk b z sI (oJ 29 z oN) fun s6 b=>nt (ar ?_)
 replace b:=(((((((b.ba cp).ba fU).ba cp).ba (cr .u8)).ba cG).ba aK).ba (eC aH)).ba cN
 cases c
 exact dI [.agg #[U1 (u8.wrap (i64.wrap (1+d.1))),Zu,Zu,Zu,Zu,Zi,Zu,Zu,Zu,Zs,Zs,Zs,Zs,Zs,Zi,Zu,Zu,Zs,Zs,Zu,Zs,Zu,Zi,Zi,Zf,Zf,Zu,Zi,.bool false]] z (ea (rN (cs:=[U1 (u8.wrap (i64.wrap (1+d.1))),Zu,Zu,Zu,Zu,Zi,Zu,Zu,Zu,Zs,Zs,Zs,Zs,Zs,Zi,Zu,Zu,Zs,Zs,Zu,Zs,Zu,Zi,Zi,Zf,Zf,Zu,Zi,.bool false]) z (b.Bk 0 z)) bl) ⟨_,Zs,Zs,Zs,Zs,Zs,Zs,Zs,Zs,z,h,b.bR.ah.aD.aA.bj.bq.de.aW.bM.tU⟩
}
theorem tp {a0:aq} {p0:Value} (c:St w0 w I [bm p0 a0] R) {r:(Bool)} (b:kt a0=some r) :
  Calls prog 67 #[p0] w fun e w'=>e = .returned (.bool r)∧St w0 w' I [bm p0 a0] R:=by {
 unfold kt at b
 refine c0 func67 z z (ww (mb z (nt (aj (ww (mi z (nt (au ?_))))))))
 obtain ⟨l,b⟩:=aS b
 refine bg (fun n a w=>∃ (f:Int),cU (jI a0) n f=some r∧fz 26 [0,3] [p0,I6 f] a∧St w0 w I [bm p0 a0] R) l ⟨0,b,fy z,c⟩ ?_
 rintro y _ A ⟨f,b,⟨B,rfl⟩,c⟩
 obtain ⟨C,D,rfl,b,g⟩:=aU b
 dsimp only [jI] at b
 refine aj (ww (mi z (mv (p0) z ?_)))
 obtain ⟨h,E,F,G,H,J,K,L,⟨rfl,i,d,j,k⟩,m⟩:=bS c
 have c:=m
 refine mp z (mF z fI (mL z (c.bc0 z) (mz (bX z uI (ak d)) (mb z (nt (bw b z ?_ ?_))))))
 {
 refine fun o b=>al (tn (aj (au (aj (eU c mixed krA (qz (Pt _ _) z (qz (Pt _ _) z (qh _ (fun w c=>xF z fI z) (qh _ (fun w c=>xL z (c.bc0 z)) (qz (I6 _) z ?_))))))))))
 obtain ⟨M,p,b⟩:=bn b
 obtain ⟨q,s,t⟩:=aV p
 refine qh _ (fun w c=>aJ z z uI sI (ak d) q s) (qh _ (fun w c=>xG z fI z) ?_)
 obtain ⟨N,u,v⟩:=Ro.lC d t
 obtain ⟨O,P,Q,S,rfl,T,U,V,W,-⟩:=u
 refine qh _ (fun w c=>xL z ((v lr c) 2 _ z)) (qz (Pt _ _) z (qz (Pt _ _) z (qh _ (fun w c=>xF z fI z) (qh _ (fun w c=>xL z (c.bc0 z)) (qz (.bool _) z (hK ?_))))))
 refine fun w c=>tn (bw b z ?_ ?_)
 {
 refine fun x b=>ww (mb z (nt (ar (eo (bh (bh ?_))))))
 replace b:=bz b g
 refine eo (bh ?_)
 cases b
 exact pB z z ⟨z,(aC (Pt h 0) a0 c.aA.aA.aA.aA ⟨z,i,d,j,k⟩).bF⟩
}
 refine fun x b=>al (bJ (tn (wrl (mi z (mi z (mi z (nt ?_)))))))
 cases b
 exact ⟨_,nls,_,g,fy z,(aC (Pt h 0) a0 c.aA.aA.aA.aA ⟨z,i,d,j,k⟩).bF⟩
}
 refine fun o b=>bH (aQ (aQ ?_))
 replace b:=bz b g
 refine cZ (tn (ww (mb z (nt (ar ?_)))))
 cases b
 exact pB z z ⟨z,(aC (Pt h 0) a0 c.aA.aA.aA.aA ⟨z,i,d,j,k⟩).bF⟩
}
theorem mU {a0:(List aw)} {f:Value} {a1:cy} (g:Ro bZ I f a0) (b:St w0 w I [] R) {r:(aw×Bool)} (c:nI a0 a1=some r) :
  Calls prog 70 #[f,.agg #[U6 a1.ab,U6 a1.Seq]] w fun e w'=>∃ (I':HL) (p:Value) (q:Value) (s:Value) (t:Value),e = .returned (.tuple #[.agg #[U6 r.1.ID.ab,U6 r.1.ID.Seq,U6 r.1.ae,p,q,s,t],.bool r.2])∧I.le I'∧Ro cp I' p r.1.dO∧Ro fU I' q r.1.aX∧Ro cp I' s r.1.dD∧Ro (cr .u8) I' t r.1.Data∧St w0 w' I' [] R:=by {
 unfold nI at c
 refine c0 func70 z z ?_
 have u:=HL.le.refl I
 refine ww ?_
 obtain ⟨v,W,G,H,b⟩:=b.box [U6 a1.ab,U6 a1.Seq] 28
 refine wa G H ?_
 obtain ⟨x,X,J,K,b⟩:=b.box [Zu,Zu,Zu,Zs,Zs,Zs,Zs] 46
 refine wa J K (mb z (nt (aj (ww (mi z (nt (au ?_)))))))
 obtain ⟨L,c⟩:=aS c
 refine bg (fun n a w=>∃ (h:Int),cU (oa a0 a1) n h=some r∧fz 25 [0,3,4,6] [f,Pt v 0,Pt x 0,I6 h] a∧St w0 w I [cells x [Zu,Zu,Zu,Zs,Zs,Zs,Zs],cells v [U6 a1.ab,U6 a1.Seq]] R) L ⟨0,c,fy z,b⟩ ?_
 rintro Y _ Z ⟨h,c,⟨b0,rfl⟩,b⟩
 obtain ⟨b1,b2,rfl,c,i⟩:=aU c
 dsimp only [oa] at c
 refine aj (ww (mi z (mv (f) z (mz (bX z uI (ak g)) (mb z (nt (bw c z ?_ ?_)))))))
 {
 refine fun M c=>al (tn (aj (au (aj (eU b mixed krA (qz f z (qz (I6 _) z ?_)))))))
 obtain ⟨d,N,c⟩:=bn c
 obtain ⟨y,A,O⟩:=aV N
 refine qh _ (fun w b=>aJ z z uI sI (ak g) y A) (qh _ (fun w b=>xG z fI z) ?_)
 obtain ⟨b3,P,B⟩:=Ro.lC g O
 obtain ⟨j,k,l,m,rfl,C,D,E,F,-⟩:=P
 refine qh _ (fun w b=>xN (cs:=[U6 d.ID.ab,U6 d.ID.Seq]) z (et (o:=0) (B lr b) z)) (qh _ (fun w b=>xN (cs:=[U6 a1.ab,U6 a1.Seq]) z (b.fO 0 z)) (qh (.bool _) (fun w b=>yG z z krA uI krA krA krA uI uI (fun _ _ _=>by kernel_rfl) (fun _ _ _=>by kernel_rfl)) (hK ?_)))
 refine fun w b=>tn (bw c z ?_ ?_)
 {
 refine fun Q c=>ww (mv (f) z (mi z (mz (aJ z z uI sI (ak g) y A) (mz (xN (cs:=[U6 d.ID.ab,U6 d.ID.Seq,U6 d.ae,j,k,l,m]) z (et (o:=0) (B lr b) z)) (bxk b z sI (oJ 3 z (oC (oS (ak C)) (oC (oS (ak D)) (oC (oS (ak E)) (oC (oS (ak F)) oN))))) fun b4 b=>mb z (nt (ar (eo (bh (bh ?_))))))))))
 replace c:=bz c i
 refine eo (bh ?_)
 cases c
 exact dI [.agg #[U6 d.ID.ab,U6 d.ID.Seq,U6 d.ae,j,k,l,m],.bool true] z (ea (rN z (b.fm 0 tz)) (rc z bl)) ⟨_,j,k,l,m,z,u,C,D,E,F,b.cT⟩
}
 refine fun Q c=>al (bJ (tn (wrl (mi z (mi z (mi z (nt ?_)))))))
 cases c
 exact ⟨_,nls,_,i,fy z,b.ah.ah.cv⟩
}
 refine fun M c=>bH (aQ (aQ ?_))
 replace c:=bz c i
 refine cZ (tn (ww (mk (.agg #[Zu,Zu,Zu,Zs,Zs,Zs,Zs]) (bxk b z sI (oJ 7 z oN) fun b5 b=>mb z (nt (ar ?_))))))
 have S:Ro cp I (.slice none 0 0) []:=dc
 have T:Ro fU I (.slice none 0 0) []:=dc
 have U:Ro cp I (.slice none 0 0) []:=dc
 have V:Ro (cr .u8) I (.slice none 0 0) []:=dc
 cases c
 exact dI [.agg #[Zu,Zu,Zu,Zs,Zs,Zs,Zs],.bool false] z (ea (rN z (b.fm 0 tz)) (rc z bl)) ⟨_,Zs,Zs,Zs,Zs,z,u,S,T,U,V,b.cT⟩
}
theorem va {a0:Nat} (b:St w0 w I [] R) {r:(Bool)} (a:py a0=some r) :
  Calls prog 145 #[F6 a0] w fun e w'=>e = .returned (.bool r)∧St w0 w' I [] R:=by {
 unfold py at a
 refine c0 func145 z z (ww (mb z (nt (ww (mv (F6 _) z (mk (.int .u64 (Int.ofNat a0)) (mk (.int .i64 (i64.wrap (Int.ofNat a0))) (mb z (mb z (nt (ar ?_)))))))))))
 cases a
 exact pB z z ⟨z,b.cT⟩
}
theorem nO {a0 a1:Nat} (c:St w0 w I [] R) {r:(Bool)} (b:mm a0 a1=some r) :
  Calls prog 59 #[F6 a0,F6 a1] w fun e w'=>e = .returned (.bool r)∧St w0 w' I [] R:=by {
 unfold mm at b
 refine c0 func59 z z (ww (mb z (nt (aj (ww (mv (F6 _) z (mv (F6 _) z (mb z (nt (bw b z ?_ ?_))))))))))
 {
 refine fun h b=>ww (mb z (nt (ar (bh ?_))))
 cases b
 exact pB z z ⟨z,c.cT⟩
}
 refine fun h b=>al (tn (aj (ww (mv (F6 _) z (mv (F6 _) z (mb z (nt (bw b z ?_ ?_))))))))
 {
 refine fun i b=>ww (mb z (nt (ar (bh ?_))))
 cases b
 exact pB z z ⟨z,c.cT⟩
}
 refine fun i b=>al (tn ?_)
 obtain ⟨m,b,g⟩:=ee b
 refine cR (fun a w =>(rr a0 a1) ()=some r∧fz 27 [0,1] [F6 a0,F6 a1] a∧St w0 w I [] R) ?_ ?_
 {
 refine ww (mv (F6 _) z (mb z (mb z (bs b ?_ ?_))))
 {
 refine fun f b=>gv (F6 _) f z (gb f z (mb (bi f z z) (nt (bw b z ?_ ?_))))
 {
 refine fun j b=>ww (mv (F6 _) z (bk b fun n k b=>wc call145 [F6 a0] z z z (kcO (va c.to0 k) fun o c=>mb z (bs b ?_ ?_))))
 {
 refine fun d b=>gv (F6 _) d z (bk b fun p l b=>dh ((av z z z (cvb d)).trans z) z (gO call145 z (vs:=[F6 a1]) z) (kcO (va c.to0 l) fun q c=>gb d z (mb (bi d z z) (mb z (nt (ar (bh ?_)))))))
 replace b:=bz b g
 cases b
 exact pB z z ⟨z,c.cT⟩
}
 refine fun d b=>go d (go d (go d (mb (aL d z z) (mb z (nt (ar (bh ?_)))))))
 replace b:=bz b g
 cases b
 exact pB z z ⟨z,c.cT⟩
}
 refine fun j b=>al (tn ?_)
 cases b
 exact ⟨g,fy z,c.cT⟩
}
 refine fun f b=>go f (go f (mb (aL f z z) (nt (cJ z (al (tn ?_))))))
 cases b
 exact ⟨g,fy z,c.cT⟩
}
 rintro _ s ⟨b,⟨t,rfl⟩,c⟩
 dsimp only [rr] at b
 refine ww (mv (F6 _) z (mv (F6 _) z (mb z (mb z (nt (ar ?_))))))
 cases b
 exact pB z z ⟨z,c.cT⟩
}
theorem fL {a0 a1:Nat} (c:St w0 w I [] R) {r:(Bool)} (b:fT a0 a1=some r) :
  Calls prog 20 #[F6 a0,F6 a1] w fun e w'=>e = .returned (.bool r)∧St w0 w' I [] R:=by {
 unfold fT at b
 refine c0 func20 z z (ww (mb z (nt (ww (mv (F6 _) z (mv (F6 _) z (bk b fun g d b=>wc call59 [F6 a0,F6 a1] z z z (kcO (nO c.to0 d) fun h c=>mb z (mb z (bs b ?_ ?_))))))))))
 {
 refine fun a b=>gv (F6 _) a z (gv (F6 _) a z (bk b fun i f b=>dh ((av z z z (cvb a)).trans z) z (gO call59 z (vs:=[F6 a1,F6 a0]) z) (kcO (nO c.to0 f) fun j c=>gb a z (mb (bi a z z) (mb z (nt (ar ?_)))))))
 cases b
 exact pB z z ⟨z,c.cT⟩
}
 refine fun a b=>go a (go a (go a (go a (mb (aL a z z) (mb z (nt (ar ?_)))))))
 cases b
 exact pB z z ⟨z,c.cT⟩
}
theorem ug {a0:aw} {o p q s:Value} {a1:aw} {t u v x:Value} (B:Rd cp R I o a0.dO) (y:Rd fU R I p a0.aX) (C:Rd cp R I q a0.dD) (X:Rd (cr .u8) R I s a0.Data) (E:Rd cp R I t a1.dO) (A:Rd fU R I u a1.aX) (F:Rd cp R I v a1.dD) (Y:Rd (cr .u8) R I x a1.Data) (c:St w0 w I [] R) {r:(Bool)} (b:lD a0 a1=some r) :
  Calls prog 89 #[.agg #[U6 a0.ID.ab,U6 a0.ID.Seq,U6 a0.ae,o,p,q,s],.agg #[U6 a1.ID.ab,U6 a1.ID.Seq,U6 a1.ae,t,u,v,x]] w fun e w'=>e = .returned (.bool r)∧St w0 w' I [] R:=by {
 unfold lD at b
 refine c0 func89 z z (ww ?_)
 obtain ⟨l,f3,Z,b0,c⟩:=c.box [U6 a0.ID.ab,U6 a0.ID.Seq,U6 a0.ae,o,p,q,s] 46
 refine wa Z b0 ?_
 obtain ⟨m,f4,b1,b2,c⟩:=c.box [U6 a1.ID.ab,U6 a1.ID.Seq,U6 a1.ae,t,u,v,x] 46
 refine wa b1 b2 (mb z (nt (aj (ww (mF z fI (mz (xN (cs:=[U6 a0.ID.ab,U6 a0.ID.Seq]) z (c.fO 0 z)) (mF z fI (mz (xN (cs:=[U6 a1.ID.ab,U6 a1.ID.Seq]) z (c.fm 0 z)) (mb (wU z z krA uI krA krA krA uI uI (fun _ _ _=>by kernel_rfl) (fun _ _ _=>by kernel_rfl)) (mb z (bs b ?_ ?_)))))))))))
 {
 refine fun k b=>go k (go k (go k (go k (go k (mb (bi k z z) (mb z (gz (gz (gz (gz (gz (gz (gz (mb (bi z z z) (mb z (gz (gz (gz (gz (gz (gz (gz (mb (bi z z z) (mb z (gz (gz (gz (gz (gz (gz (gz (mb (bi z z z) (mb z (gz (gz (gz (gz (gz (gz (gz (mb (bi z z z) (nt (eG z (ww (mb z (nt (ar (bh ?_))))))))))))))))))))))))))))))))))))))))))))))))
 cases b
 exact pB z z ⟨z,c.cT⟩
}
 refine fun k b=>gg k (xF z fI z) (gg k (xL z (c.bc1 z)) (gg k (xF z fI z) (gg k (xL z (c.bc0 z)) (gb k z (mb (aL k z z) (mb z (bs b ?_ ?_)))))))
 {
 refine fun f b=>go f (go f (go f (go f (go f (go f (go f (mb (bi f z z) (mb z (gz (gz (gz (gz (gz (gz (gz (mb (bi z z z) (mb z (gz (gz (gz (gz (gz (gz (gz (mb (bi z z z) (mb z (gz (gz (gz (gz (gz (gz (gz (mb (bi z z z) (nt (eG z (ww (mb z (nt (ar (bh ?_)))))))))))))))))))))))))))))))))))))))))
 cases b
 exact pB z z ⟨z,c.cT⟩
}
 refine fun f b=>gg f (xF z fI z) (gg f (xL z (c.bc1 z)) (gg f (bX z uI (ay B)) (gg f (xF z fI z) (gg f (xL z (c.bc0 z)) (gg f (bX z uI (ay E)) (gb f z (mb (aL f z z) (mb z (bs b ?_ ?_)))))))))
 {
 refine fun g b=>go g (go g (go g (go g (go g (go g (go g (mb (bi g z z) (mb z (gz (gz (gz (gz (gz (gz (gz (mb (bi z z z) (mb z (gz (gz (gz (gz (gz (gz (gz (mb (bi z z z) (nt (eG z (ww (mb z (nt (ar (bh ?_))))))))))))))))))))))))))))))))
 cases b
 exact pB z z ⟨z,c.cT⟩
}
 refine fun g b=>gg g (xF z fI z) (gg g (xL z (c.bc1 z)) (gg g (bX z uI (ay y)) (gg g (xF z fI z) (gg g (xL z (c.bc0 z)) (gg g (bX z uI (ay A)) (gb g z (mb (aL g z z) (mb z (bs b ?_ ?_)))))))))
 {
 refine fun h b=>go h (go h (go h (go h (go h (go h (go h (mb (bi h z z) (mb z (gz (gz (gz (gz (gz (gz (gz (mb (bi z z z) (nt (eG z (ww (mb z (nt (ar (bh ?_)))))))))))))))))))))))
 cases b
 exact pB z z ⟨z,c.cT⟩
}
 refine fun h b=>gg h (xF z fI z) (gg h (xL z (c.bc1 z)) (gg h (bX z uI (ay C)) (gg h (xF z fI z) (gg h (xL z (c.bc0 z)) (gg h (bX z uI (ay F)) (gb h z (mb (aL h z z) (mb z (bs b ?_ ?_)))))))))
 {
 refine fun j b=>go j (go j (go j (go j (go j (go j (go j (mb (bi j z z) (nt (eG z (ww (mb z (nt (ar (bh ?_))))))))))))))
 cases b
 exact pB z z ⟨z,c.cT⟩
}
 refine fun j b=>gg j (xF z fI z) (gg j (xL z (c.bc1 z)) (gv (.string (ly a0.Data)) j (uz uI uI uI z (Src.vf c X pe)) (gg j (xF z fI z) (gg j (xL z (c.bc0 z)) (gv (.string (ly a1.Data)) j (uz uI uI uI z (Src.vf c Y pe)) (gk (.bool (!(sEq (ly a0.Data) (ly a1.Data)))) j (mb (aL j z z) (nt (bw b z ?_ ?_)))))))))
 {
 refine fun b3 b=>ww (mb z (nt (ar (bh ?_))))
 cases b
 exact pB z z ⟨z,c.cT⟩
}
 refine fun b3 b=>al (tn ?_)
 obtain ⟨b4,b,N⟩:=ee b
 refine cR (fun a w =>(oG a0 a1) ()=some r∧fz 131 [2,3] [Pt l 0,Pt m 0] a∧St w0 w I [cells l [U6 a0.ID.ab,U6 a0.ID.Seq,U6 a0.ae,o,p,q,s],cells m [U6 a1.ID.ab,U6 a1.ID.Seq,U6 a1.ae,t,u,v,x]] R) ?_ ?_
 {
 refine ww (mi z (nt (au ?_)))
 obtain ⟨b5,b⟩:=aS b
 refine bg (fun n a w=>∃ (G:Int),cU (iY a0 a1) n G=some b4∧fz 131 [2,3,5] [Pt l 0,Pt m 0,I6 G] a∧St w0 w I [cells m [U6 a1.ID.ab,U6 a1.ID.Seq,U6 a1.ae,t,u,v,x],cells l [U6 a0.ID.ab,U6 a0.ID.Seq,U6 a0.ae,o,p,q,s]] R) b5 ⟨0,b,fy z,c⟩ ?_
 rintro f5 _ f6 ⟨G,b,⟨f7,rfl⟩,c⟩
 obtain ⟨f8,f9,rfl,b,H⟩:=aU b
 dsimp only [iY] at b
 refine aj (ww (mi z (mF z fI (mL z (c.bc1 z) (mz (bX z uI (ay B)) (mb z (nt (bw b z ?_ ?_))))))))
 {
 refine fun b6 b=>al (tn (aj (au (aj (rg c 12 [0,1,0,7,15,0,32,0,224,480,1023,2047] [] mixed (sF 0 z z fI (sL 1 z z (·.bc1 z) (si 2 z z ?_))))))))
 obtain ⟨b7,b8,b⟩:=bn b
 obtain ⟨b9,c1,c2⟩:=aV b8
 refine sh _ 3 z (fun w c=>aJ z z uI sI (ay B) b9 c1) (sL 4 z z (fun c=>fb B lr c c2 riA) (sF 5 z z fI (sL 6 z z (·.bc0 z) (si 7 z z ?_))))
 obtain ⟨c3,c4,b⟩:=bn b
 obtain ⟨c5,c6,c7⟩:=aV c4
 refine sh _ 8 z (fun w c=>aJ z z uI sI (ay E) c5 c6) (sL 9 z z (fun c=>fb E lr c c7 riA) (e1 10 z z fun w c=>?_))
 refine bk b fun g0 c8 b=>wec call20 [F6 b7,F6 c3] z z (kcO (fL c.to0 c8) fun g1 c=>w0n c (sb 11 z z (bt ?_)))
 refine fun w c=>tn (bw b z ?_ ?_)
 {
 refine fun c9 b=>ww (mb z (nt (ar (eo (bh (bh ?_))))))
 replace b:=bz b H
 refine eo (bh ?_)
 replace b:=bz b N
 cases b
 exact pB z z ⟨z,c.cT⟩
}
 refine fun c9 b=>al (bJ (tn (wrl (mi z (mi z (mi z (nt ?_)))))))
 cases b
 exact ⟨_,nls,_,H,fy z,c.ah.ah.cv⟩
}
 refine fun b6 b=>bH (aQ (aQ ?_))
 replace b:=bz b H
 refine cZ (tn ?_)
 cases b
 exact ⟨N,fy z,c.ah.cv⟩
}
 rintro _ g2 ⟨b,⟨g3,rfl⟩,c⟩
 dsimp only [oG] at b
 obtain ⟨d0,b,J⟩:=ee b
 refine cR (fun a w =>(rf a0 a1) ()=some r∧fz 131 [2,3] [Pt l 0,Pt m 0] a∧St w0 w I [cells l [U6 a0.ID.ab,U6 a0.ID.Seq,U6 a0.ae,o,p,q,s],cells m [U6 a1.ID.ab,U6 a1.ID.Seq,U6 a1.ae,t,u,v,x]] R) ?_ ?_
 {
 refine ww (mi z (nt (au ?_)))
 obtain ⟨d1,b⟩:=aS b
 refine bg (fun n a w=>∃ (K:Int),cU (iP a0 a1) n K=some d0∧fz 131 [2,3,6] [Pt l 0,Pt m 0,I6 K] a∧St w0 w I [cells l [U6 a0.ID.ab,U6 a0.ID.Seq,U6 a0.ae,o,p,q,s],cells m [U6 a1.ID.ab,U6 a1.ID.Seq,U6 a1.ae,t,u,v,x]] R) d1 ⟨0,b,fy z,c⟩ ?_
 rintro g4 _ g5 ⟨K,b,⟨g6,rfl⟩,c⟩
 obtain ⟨g7,g8,rfl,b,D⟩:=aU b
 dsimp only [iP] at b
 refine aj (ww (mi z (mF z fI (mL z (c.bc0 z) (mz (bX z uI (ay y)) (mb z (nt (bw b z ?_ ?_))))))))
 {
 refine fun d2 b=>al (tn (aj (au (aj (rg c 30 [0,1,0,7,15,31,0,64,0,448,960,1984,4095,8191,16383,32767,65535,32767,262143,524287,1048575,32767,2129919,32767,14712831,31490047,65044479,134217727,268435455,536870911] [] mixed (sF 0 z z fI (sL 1 z z (·.bc0 z) (si 2 z z ?_))))))))
 obtain ⟨O,d3,b⟩:=bn b
 obtain ⟨P,Q,S⟩:=aV d3
 refine sh _ 3 z (fun w c=>aJ z z uI sI (ay y) P Q) (sh (.pointer (some _)) 4 z (fun w c=>kP (i:=0) z z uI sI deA deA z) (sL 5 z z (fun c=>fb y lr c S riA) (sF 6 z z fI (sL 7 z z (·.bc1 z) (si 8 z z ?_)))))
 obtain ⟨T,d4,b⟩:=bn b
 obtain ⟨U,V,W⟩:=aV d4
 refine sh _ 9 z (fun w c=>aJ z z uI sI (ay A) U V) (sh (.pointer (some _)) 10 z (fun w c=>kP (i:=0) z z uI sI deA deA z) (sL 11 z z (fun c=>fb A lr c W riA) (e1 12 z z fun w c=>?_)))
 refine bk b fun g9 d5 b=>wec call20 [F6 O.1,F6 T.1] z z (kcO (fL c.to0 d5) fun h0 c=>w0n c (sb 13 z z (sb 14 z z (bs b ?_ ?_))))
 {
 refine fun d b=>so 15 z d (so 16 z d (so 17 z d (so 18 z d (so 19 z d (so 20 z d (so 21 z d (so 22 z d (so 23 z d (so 24 z d (so 25 z d (so 26 z d (so 27 z d (so 28 z d (sh (.bool _) 29 z (fun w c=>bi d z z) (bt ?_)))))))))))))))
 refine fun w c=>tn (eG z (ww (mb z (nt (ar (eo (bh (bh ?_))))))))
 replace b:=bz b D
 refine eo (bh ?_)
 replace b:=bz b J
 cases b
 exact pB z z ⟨z,c.cT⟩
}
 refine fun d b=>sg _ 15 z d (fun w c=>xF z fI z) (sg _ 16 z d (fun w c=>xL z (c.bc0 z)) (sgz (I6 _) 17 z d z (sg _ 18 z d (fun w c=>aJ z z uI sI (ay y) P Q) (sg (.pointer (some _)) 19 z d (fun w c=>kP (i:=1) z z uI sI deA deA z) (sg _ 20 z d (fun w c=>xL z (fb y lr c S riA)) (sg _ 21 z d (fun w c=>xF z fI z) (sg _ 22 z d (fun w c=>xL z (c.bc1 z)) (sgz (I6 _) 23 z d z (sg _ 24 z d (fun w c=>aJ z z uI sI (ay A) U V) (sg (.pointer (some _)) 25 z d (fun w c=>kP (i:=1) z z uI sI deA deA z) (sg _ 26 z d (fun w c=>xL z (fb A lr c W riA)) (iN 27 krA (nxe [28,29] krA z ((av z z z (cvb d)).trans z) ?_)))))))))))))
 clear c
 intro w c
 obtain ⟨h1,d6,b⟩:=bn b
 refine wec call20 [F6 O.2,F6 T.2] z z (kcO (fL c.to0 d6) fun h2 c=>w0n c (sgz (.bool _) 28 z d z (sh (.bool _) 29 z (fun w c=>aL d z z) (bt ?_))))
 refine fun w c=>tn (bw b z ?_ ?_)
 {
 refine fun d7 b=>ww (mb z (nt (ar (eo (bh (bh ?_))))))
 replace b:=bz b D
 refine eo (bh ?_)
 replace b:=bz b J
 cases b
 exact pB z z ⟨z,c.cT⟩
}
 refine fun d7 b=>al (bJ (tn (wrl (mi z (mi z (mi z (nt ?_)))))))
 cases b
 exact ⟨_,nls,_,D,fy z,c.ah.ah.cv⟩
}
 refine fun d2 b=>bH (aQ (aQ ?_))
 replace b:=bz b D
 refine cZ (tn ?_)
 cases b
 exact ⟨J,fy z,c.ah.ah.cv⟩
}
 rintro _ h3 ⟨b,⟨h4,rfl⟩,c⟩
 dsimp only [rf] at b
 refine aj (ww (mi z (nt (au ?_))))
 obtain ⟨d8,b⟩:=aS b
 refine bg (fun n a w=>∃ (L:Int),cU (iQ a0 a1) n L=some r∧fz 131 [2,3,7] [Pt l 0,Pt m 0,I6 L] a∧St w0 w I [cells l [U6 a0.ID.ab,U6 a0.ID.Seq,U6 a0.ae,o,p,q,s],cells m [U6 a1.ID.ab,U6 a1.ID.Seq,U6 a1.ae,t,u,v,x]] R) d8 ⟨0,b,fy z,c⟩ ?_
 rintro h5 _ h6 ⟨L,b,⟨h7,rfl⟩,c⟩
 obtain ⟨h8,h9,rfl,b,M⟩:=aU b
 dsimp only [iQ] at b
 refine aj (ww (mi z (mF z fI (mL z (c.bc0 z) (mz (bX z uI (ay C)) (mb z (nt (bw b z ?_ ?_))))))))
 {
 refine fun d9 b=>al (tn (aj (au (aj (rg c 12 [0,1,0,7,15,0,32,0,224,480,1023,2047] [] mixed (sF 0 z z fI (sL 1 z z (·.bc0 z) (si 2 z z ?_))))))))
 obtain ⟨e0,e2,b⟩:=bn b
 obtain ⟨e3,e4,e5⟩:=aV e2
 refine sh _ 3 z (fun w c=>aJ z z uI sI (ay C) e3 e4) (sL 4 z z (fun c=>fb C lr c e5 riA) (sF 5 z z fI (sL 6 z z (·.bc1 z) (si 7 z z ?_))))
 obtain ⟨e6,e7,b⟩:=bn b
 obtain ⟨e8,e9,f0⟩:=aV e7
 refine sh _ 8 z (fun w c=>aJ z z uI sI (ay F) e8 e9) (sL 9 z z (fun c=>fb F lr c f0 riA) (e1 10 z z fun w c=>?_))
 refine bk b fun i0 f1 b=>wec call20 [F6 e0,F6 e6] z z (kcO (fL c.to0 f1) fun i1 c=>w0n c (sb 11 z z (bt ?_)))
 refine fun w c=>tn (bw b z ?_ ?_)
 {
 refine fun f2 b=>ww (mb z (nt (ar (eo (bh (bh ?_))))))
 replace b:=bz b M
 refine eo (bh ?_)
 cases b
 exact pB z z ⟨z,c.cT⟩
}
 refine fun f2 b=>al (bJ (tn (wrl (mi z (mi z (mi z (nt ?_)))))))
 cases b
 exact ⟨_,nls,_,M,fy z,c.ah.ah.cv⟩
}
 refine fun d9 b=>bH (aQ (aQ ?_))
 replace b:=bz b M
 refine cZ (tn (ww (mb z (nt (ar ?_)))))
 cases b
 exact pB z z ⟨z,c.cT⟩
}
theorem xV {a0:(List Nat)} {d:Value} {a1:Nat} (f:Rd cp R I d a0) (c:St w0 w I [] R) {r:(Bool)} (b:tD a0 a1=some r) :
  Calls prog 220 #[d,F6 a1] w fun e w'=>e = .returned (.bool r)∧St w0 w' I [] R:=by {
 unfold tD at b
 refine c0 func220 z z (ww (mb z (nt (aj (ww (mi z (nt (au ?_))))))))
 obtain ⟨i,b⟩:=aS b
 refine bg (fun n a w=>∃ (g:Int),cU (pE a0 a1) n g=some r∧fz 18 [0,1,5] [d,F6 a1,I6 g] a∧St w0 w I [] R) i ⟨0,b,fy z,c⟩ ?_
 rintro t _ u ⟨g,b,⟨v,rfl⟩,c⟩
 obtain ⟨x,y,rfl,b,h⟩:=aU b
 dsimp only [pE] at b
 refine aj (ww (mi z (mv (d) z (mz (bX z uI (ay f)) (mb z (nt (bw b z ?_ ?_)))))))
 {
 refine fun j b=>al (tn (aj (au (ww (mv (d) z (mi z ?_))))))
 obtain ⟨k,l,b⟩:=bn b
 obtain ⟨m,o,p⟩:=aV l
 refine mz (aJ z z uI sI (ay f) m o) (mL z (fb f lr c p riA) (mv (F6 _) z ?_))
 refine bk b fun A q b=>wc call20 [F6 k,F6 a1] z z z (kcO (fL c.to0 q) fun B c=>nt (bw b z ?_ ?_))
 {
 refine fun s b=>ww (mb z (nt (ar (eo (bh (bh ?_))))))
 replace b:=bz b h
 refine eo (bh ?_)
 cases b
 exact pB z z ⟨z,c.cT⟩
}
 refine fun s b=>al (bJ (tn (wrl (mi z (mi z (mi z (nt ?_)))))))
 cases b
 exact ⟨_,nls,_,h,fy z,c.cT⟩
}
 refine fun j b=>bH (aQ (aQ ?_))
 replace b:=bz b h
 refine cZ (tn (ww (mb z (nt (ar ?_)))))
 cases b
 exact pB z z ⟨z,c.cT⟩
}
theorem ve {a0 a1 a2:Nat} (c:St w0 w I [] R) {r:(Bool)} (b:mq a0 a1 a2=some r) :
  Calls prog 153 #[F6 a0,F6 a1,F6 a2] w fun e w'=>e = .returned (.bool r)∧St w0 w' I [] R:=by {
 unfold mq at b
 refine c0 func153 z z (ww (mb z (nt (ww (mv (F6 _) z (mv (F6 _) z (bk b fun g d b=>wc call59 [F6 a0,F6 a1] z z z (kcO (nO c.to0 d) fun h c=>mb z (mb z (bs b ?_ ?_))))))))))
 {
 refine fun a b=>gv (F6 _) a z (gv (F6 _) a z (bk b fun i f b=>dh ((av z z z (cvb a)).trans z) z (gO call59 z (vs:=[F6 a2,F6 a0]) z) (kcO (nO c.to0 f) fun j c=>gb a z (mb (bi a z z) (mb z (nt (ar ?_)))))))
 cases b
 exact pB z z ⟨z,c.cT⟩
}
 refine fun a b=>go a (go a (go a (go a (mb (aL a z z) (mb z (nt (ar ?_)))))))
 cases b
 exact pB z z ⟨z,c.cT⟩
}
theorem vN {a0:aw} {d f g h:Value} {a1:Nat} (u:Rd cp R I d a0.dO) (j:Rd fU R I f a0.aX) (G:Rd cp R I g a0.dD) (H:Rd (cr .u8) R I h a0.Data) (c:St w0 w I [] R) {r:(Bool)} (b:qL a0 a1=some r) :
  Calls prog 221 #[.agg #[U6 a0.ID.ab,U6 a0.ID.Seq,U6 a0.ae,d,f,g,h],F6 a1] w fun e w'=>e = .returned (.bool r)∧St w0 w' I [] R:=by {
 unfold qL at b
 refine c0 func221 z z (ww ?_)
 obtain ⟨k,J,v,x,c⟩:=c.box [U6 a0.ID.ab,U6 a0.ID.Seq,U6 a0.ae,d,f,g,h] 46
 refine wa v x (mb z (nt ?_))
 obtain ⟨y,b,o⟩:=ee b
 refine cR (fun a w =>(pj a0 a1) ()=some r∧fz 31 [1,2] [F6 a1,Pt k 0] a∧St w0 w I [cells k [U6 a0.ID.ab,U6 a0.ID.Seq,U6 a0.ae,d,f,g,h]] R) ?_ ?_
 {
 refine ww (mi z (nt (au ?_)))
 obtain ⟨A,b⟩:=aS b
 refine bg (fun n a w=>∃ (l:Int),cU (mR a0 a1) n l=some y∧fz 31 [1,2,5] [F6 a1,Pt k 0,I6 l] a∧St w0 w I [cells k [U6 a0.ID.ab,U6 a0.ID.Seq,U6 a0.ae,d,f,g,h]] R) A ⟨0,b,fy z,c⟩ ?_
 rintro K _ L ⟨l,b,⟨M,rfl⟩,c⟩
 obtain ⟨N,O,rfl,b,m⟩:=aU b
 dsimp only [mR] at b
 refine aj (ww (mi z (mF z fI (mL z (c.bc0 z) (mz (bX z uI (ay j)) (mb z (nt (bw b z ?_ ?_))))))))
 {
 refine fun B b=>al (tn (aj (au (aj (rg c 14 [0,0,2,0,14,30,62,0,128,0,896,1920,3968,8191] [] mixed (sz (F6 _) 0 z z (sF 1 z z fI (sL 2 z z (·.bc0 z) (si 3 z z ?_)))))))))
 obtain ⟨p,C,b⟩:=bn b
 obtain ⟨q,s,t⟩:=aV C
 refine sh _ 4 z (fun w c=>aJ z z uI sI (ay j) q s) (sh (.pointer (some _)) 5 z (fun w c=>kP (i:=0) z z uI sI deA deA z) (sL 6 z z (fun c=>fb j lr c t riA) (sF 7 z z fI (sL 8 z z (·.bc0 z) (si 9 z z (sh _ 10 z (fun w c=>aJ z z uI sI (ay j) q s) (sh (.pointer (some _)) 11 z (fun w c=>kP (i:=1) z z uI sI deA deA z) (sL 12 z z (fun c=>fb j lr c t riA) (e1 13 z z fun w c=>?_)))))))))
 refine bk b fun P D b=>wec call153 [F6 a1,F6 p.1,F6 p.2] z z (kcO (ve c.to0 D) fun Q c=>w0n c (bt ?_))
 refine fun w c=>tn (bw b z ?_ ?_)
 {
 refine fun E b=>ww (mb z (nt (ar (eo (bh (bh ?_))))))
 replace b:=bz b m
 refine eo (bh ?_)
 replace b:=bz b o
 cases b
 exact pB z z ⟨z,c.cT⟩
}
 refine fun E b=>al (bJ (tn (wrl (mi z (mi z (mi z (nt ?_)))))))
 cases b
 exact ⟨_,nls,_,m,fy z,c.bF⟩
}
 refine fun B b=>bH (aQ (aQ ?_))
 replace b:=bz b m
 refine cZ (tn ?_)
 cases b
 exact ⟨o,fy z,c.bF⟩
}
 rintro _ S ⟨b,⟨T,rfl⟩,c⟩
 dsimp only [pj] at b
 refine ww (mF z fI (mL z (c.bc0 z) (mv (F6 _) z (bk b fun U F b=>wc call220 [d,F6 a1] z z z (kcO (xV (u.mono (cW _)) c.to0 F) fun V c=>mb z (nt (ar ?_)))))))
 obtain rfl:=sj b
 exact pB z z ⟨z,c.cT⟩
}
theorem Br {a0:aw} {g h i j:Value} {a1:aw} {k l f m:Value} (E:Rd cp R I g a0.dO) (F:Rd fU R I h a0.aX) (o:Rd cp R I i a0.dD) (G:Rd (cr .u8) R I j a0.Data) (H:Rd cp R I k a1.dO) (J:Rd fU R I l a1.aX) (s:Rd cp R I f a1.dD) (K:Rd (cr .u8) R I m a1.Data) (c:St w0 w I [] R) {r:(Bool)} (b:tT a0 a1=some r) :
  Calls prog 202 #[.agg #[U6 a0.ID.ab,U6 a0.ID.Seq,U6 a0.ae,g,h,i,j],.agg #[U6 a1.ID.ab,U6 a1.ID.Seq,U6 a1.ae,k,l,f,m]] w fun e w'=>e = .returned (.bool r)∧St w0 w' I [] R:=by {
 unfold tT at b
 refine c0 func202 z z (ww ?_)
 obtain ⟨p,b6,L,M,c⟩:=c.box [U6 a0.ID.ab,U6 a0.ID.Seq,U6 a0.ae,g,h,i,j] 46
 refine wa L M ?_
 obtain ⟨q,b7,N,O,c⟩:=c.box [U6 a1.ID.ab,U6 a1.ID.Seq,U6 a1.ae,k,l,f,m] 46
 refine wa N O (mb z (nt ?_))
 obtain ⟨P,b,u⟩:=ee b
 refine cR (fun a w =>(qm a1 a0) ()=some r∧fz 45 [2,3] [Pt p 0,Pt q 0] a∧St w0 w I [cells p [U6 a0.ID.ab,U6 a0.ID.Seq,U6 a0.ae,g,h,i,j],cells q [U6 a1.ID.ab,U6 a1.ID.Seq,U6 a1.ae,k,l,f,m]] R) ?_ ?_
 {
 refine ww (mi z (nt (au ?_)))
 obtain ⟨Q,b⟩:=aS b
 refine bg (fun n a w=>∃ (v:Int),cU (og a0 a1) n v=some P∧fz 45 [2,3,5] [Pt p 0,Pt q 0,I6 v] a∧St w0 w I [cells q [U6 a1.ID.ab,U6 a1.ID.Seq,U6 a1.ae,k,l,f,m],cells p [U6 a0.ID.ab,U6 a0.ID.Seq,U6 a0.ae,g,h,i,j]] R) Q ⟨0,b,fy z,c⟩ ?_
 rintro b8 _ b9 ⟨v,b,⟨c1,rfl⟩,c⟩
 obtain ⟨c2,c3,rfl,b,t⟩:=aU b
 dsimp only [og] at b
 refine aj (ww (mi z (mF z fI (mL z (c.bc1 z) (mz (bX z uI (ay o)) (mb z (nt (bw b z ?_ ?_))))))))
 {
 refine fun S b=>al (tn (aj (au (aj (rg c 17 [0,1,0,4,0,28,60,127,255,511,511,1535,511,7679,15871,32767,65535] [] mixed (sF 0 z z fI (sL 1 z z (·.bc0 z) (sF 2 z z fI (sL 3 z z (·.bc1 z) (si 4 z z ?_))))))))))
 obtain ⟨A,T,b⟩:=bn b
 obtain ⟨B,C,D⟩:=aV T
 refine sh _ 5 z (fun w c=>aJ z z uI sI (ay o) B C) (sL 6 z z (fun c=>fb o lr c D riA) (e1 7 z z fun w c=>?_))
 refine bk b fun c4 U b=>wec call220 [f,F6 A] z z (kcO (xV (s.mono (cW _)) c.to0 U) fun c5 c=>w0n c (sb 8 z z (bs b ?_ ?_)))
 {
 refine fun d b=>so 9 z d (so 10 z d (so 11 z d (so 12 z d (so 13 z d (so 14 z d (so 15 z d (sh (.bool _) 16 z (fun w c=>bi d z z) (bt ?_))))))))
 refine fun w c=>tn (eG z (ww (mb z (nt (ar (eo (bh (bh ?_))))))))
 replace b:=bz b t
 refine eo (bh ?_)
 replace b:=bz b u
 cases b
 exact pB z z ⟨z,c.cT⟩
}
 refine fun d b=>sg _ 9 z d (fun w c=>xN z (c.fm 0 tz)) (sg _ 10 z d (fun w c=>xF z fI z) (sg _ 11 z d (fun w c=>xL z (c.bc1 z)) (sgz (I6 _) 12 z d z (sg _ 13 z d (fun w c=>aJ z z uI sI (ay o) B C) (sg _ 14 z d (fun w c=>xL z (fb o lr c D riA)) (iN 15 krA (nxe [16] krA z ((av z z z (cvb d)).trans z) ?_)))))))
 clear c
 intro w c
 obtain ⟨c6,V,b⟩:=bn b
 refine wec call221 [.agg #[U6 a1.ID.ab,U6 a1.ID.Seq,U6 a1.ae,k,l,f,m],F6 A] z z (kcO (vN (H.mono (cW _)) (J.mono (cW _)) (s.mono (cW _)) (K.mono (cW _)) c.to0 V) fun c7 c=>w0n c (sh (.bool _) 16 z (fun w c=>aL d z z) (bt ?_)))
 refine fun w c=>tn (bw b z ?_ ?_)
 {
 refine fun W b=>ww (mb z (nt (ar (eo (bh (bh ?_))))))
 replace b:=bz b t
 refine eo (bh ?_)
 replace b:=bz b u
 cases b
 exact pB z z ⟨z,c.cT⟩
}
 refine fun W b=>al (bJ (tn (wrl (mi z (mi z (mi z (nt ?_)))))))
 cases b
 exact ⟨_,nls,_,t,fy z,c.ah.ah.cv⟩
}
 refine fun S b=>bH (aQ (aQ ?_))
 replace b:=bz b t
 refine cZ (tn ?_)
 cases b
 exact ⟨u,fy z,c.ah.cv⟩
}
 rintro _ c8 ⟨b,⟨c9,rfl⟩,c⟩
 dsimp only [qm] at b
 refine aj (ww (mi z (nt (au ?_))))
 obtain ⟨X,b⟩:=aS b
 refine bg (fun n a w=>∃ (x:Int),cU (ow a1 a0) n x=some r∧fz 45 [2,3,6] [Pt p 0,Pt q 0,I6 x] a∧St w0 w I [cells p [U6 a0.ID.ab,U6 a0.ID.Seq,U6 a0.ae,g,h,i,j],cells q [U6 a1.ID.ab,U6 a1.ID.Seq,U6 a1.ae,k,l,f,m]] R) X ⟨0,b,fy z,c⟩ ?_
 rintro d0 _ d1 ⟨x,b,⟨d2,rfl⟩,c⟩
 obtain ⟨d3,d4,rfl,b,y⟩:=aU b
 dsimp only [ow] at b
 refine aj (ww (mi z (mF z fI (mL z (c.bc1 z) (mz (bX z uI (ay s)) (mb z (nt (bw b z ?_ ?_))))))))
 {
 refine fun Y b=>al (tn (aj (au (aj (rg c 7 [0,0,2,0,14,30,63] [] mixed (sh _ 0 z (fun w c=>xN z (c.fm 0 tz)) (sF 1 z z fI (sL 2 z z (·.bc1 z) (si 3 z z ?_)))))))))
 obtain ⟨Z,b0,b⟩:=bn b
 obtain ⟨b1,b2,b3⟩:=aV b0
 refine sh _ 4 z (fun w c=>aJ z z uI sI (ay s) b1 b2) (sL 5 z z (fun c=>fb s lr c b3 riA) (e1 6 z z fun w c=>?_))
 refine bk b fun d5 b4 b=>wec call221 [.agg #[U6 a0.ID.ab,U6 a0.ID.Seq,U6 a0.ae,g,h,i,j],F6 Z] z z (kcO (vN (E.mono (cW _)) (F.mono (cW _)) (o.mono (cW _)) (G.mono (cW _)) c.to0 b4) fun d6 c=>w0n c (bt ?_))
 refine fun w c=>tn (bw b z ?_ ?_)
 {
 refine fun b5 b=>ww (mb z (nt (ar (eo (bh (bh ?_))))))
 replace b:=bz b y
 refine eo (bh ?_)
 cases b
 exact pB z z ⟨z,c.cT⟩
}
 refine fun b5 b=>al (bJ (tn (wrl (mi z (mi z (mi z (nt ?_)))))))
 cases b
 exact ⟨_,nls,_,y,fy z,c.ah.ah.cv⟩
}
 refine fun Y b=>bH (aQ (aQ ?_))
 replace b:=bz b y
 refine cZ (tn (ww (mb z (nt (ar ?_)))))
 cases b
 exact pB z z ⟨z,c.cT⟩
}
theorem tO {a0:(List aw)} {g:Value} {a1:cy} (i:Ro bZ I g a0) (b:St w0 w I [] R) {r:((List aw))} (c:sf a0 a1=some r) :
  Calls prog 71 #[g,.agg #[U6 a1.ab,U6 a1.Seq]] w fun e w'=>∃ (m:Value),e = .returned (m)∧St w0 w' I [bp bZ m r] R:=by {
 unfold sf at c
 refine c0 func71 z z (ww ?_)
 obtain ⟨p,X,G,H,b⟩:=b.box [U6 a1.ab,U6 a1.Seq] 28
 refine wa G H (mv ((.slice none 0 0)) z (nt (ww (mv ((.slice none 0 0)) z (nt (aj (ww (mi z (nt (au ?_))))))))))
 replace b:=b.ba bZ
 obtain ⟨J,c⟩:=aS c
 refine bg (fun n a w=>∃ (h:(List aw)) (j:Int) (f:Value),cU (oc a0 a1) n (h,j)=some r∧fz 28 [0,3,5,6] [g,Pt p 0,f,I6 j] a∧St w0 w I [bp bZ f h,cells p [U6 a1.ab,U6 a1.Seq]] R) J ⟨[],0,Zs,c,fy z,b⟩ ?_
 rintro Y _ Z ⟨h,j,f,c,⟨b0,rfl⟩,b⟩
 obtain ⟨b1,b2,rfl,c,k⟩:=aU c
 dsimp only [oc] at c
 refine aj (ww (mi z (mv (g) z (mz (bX z uI (ak i)) (mb z (nt (bw c z ?_ ?_)))))))
 {
 refine fun K c=>al (tn (aj (au (aj (eU b mixed krA (qz g z (qz (I6 _) z ?_)))))))
 obtain ⟨d,L,c⟩:=bn c
 obtain ⟨q,s,M⟩:=aV L
 refine qh _ (fun w b=>aJ z z uI sI (ak i) q s) (qh _ (fun w b=>xG z fI z) ?_)
 obtain ⟨b3,N,t⟩:=Ro.lC i M
 obtain ⟨u,x,y,A,rfl,B,C,D,F,-⟩:=N
 refine qh _ (fun w b=>xN (cs:=[U6 d.ID.ab,U6 d.ID.Seq]) z (et (o:=0) (t lr b) z)) (qh _ (fun w b=>xN (cs:=[U6 a1.ab,U6 a1.Seq]) z (b.fO 0 z)) (qh (.bool _) (fun w b=>wU z z krA uI krA krA krA uI uI (fun _ _ _=>by kernel_rfl) (fun _ _ _=>by kernel_rfl)) (hK ?_)))
 refine fun w b=>tn (bw c z ?_ ?_)
 {
 refine fun O c=>wrl (mv (f) z (mv (g) z (mi z (mz (aJ z z uI sI (ak i) q s) (mz (xN (cs:=[U6 d.ID.ab,U6 d.ID.Seq,U6 d.ae,u,x,y,A]) z (et (o:=0) (t lr b) z)) ?_)))))
 obtain ⟨P,Q,S,T,b⟩:=b.lits (E:=bZ) (xs:=[d]) [[U6 d.ID.ab,U6 d.ID.Seq,U6 d.ae,u,x,y,A]] 46 1 z (bT.cons ⟨_,_,_,_,z,B,C,D,F,oS (ak B),oS (ak C),oS (ak D),oS (ak F)⟩ bT.nil)
 refine cK (v:=(.slice (some ⟨P,0,none⟩) 1 1)) (w':=Q) z z (dH krA S T) ?_
 obtain ⟨U,c⟩:=cF c
 replace b:=b.ah
 obtain ⟨l,V,W,b⟩:=bO ua underlying125 b b.iL (cP U z) 125
 refine cK (v:=l) (w':=V) z z (ck z z W) (mv (l) z (dv (bJ (tn (wrl (mi z (mi z (mi z (nt ?_)))))))))
 cases c
 exact ⟨_,nls,(h++([d])),_,l,k,fy z,b.aD.ah.cv⟩
}
 refine fun O c=>al (bJ (tn (wrl (mi z (mi z (mi z (nt ?_)))))))
 cases c
 exact ⟨_,nls,h,_,f,k,fy z,b.ah.ah.cv⟩
}
 refine fun K c=>bH (aQ (aQ ?_))
 replace c:=bz c k
 refine cZ (tn (ww (mv (f) z (mv (f) z (nt (ar ?_))))))
 cases c
 exact dI [f] z (rc z bl) ⟨f,z,b.bF⟩
}
theorem Ax {a0:(List aw)} {f:Value} {a1:aw} {g h i j:Value} (l:Ro bZ I f a0) (m:Ro cp I g a1.dO) (p:Ro fU I h a1.aX) (q:Ro cp I i a1.dD) (s:Ro (cr .u8) I j a1.Data) (b:St w0 w I [] R) {r:((List aw)×Bool)} (c:rZ a0 a1=some r) :
  Calls prog 150 #[f,.agg #[U6 a1.ID.ab,U6 a1.ID.Seq,U6 a1.ae,g,h,i,j]] w fun e w'=>∃ (I':HL) (F:Value),e = .returned (.tuple #[F,.bool r.2])∧I.le I'∧Ro bZ I' F r.1∧St w0 w' I' [] R:=by {
 unfold rZ at c
 refine c0 func150 z z ?_
 have u:=HL.le.refl I
 refine ww ?_
 obtain ⟨x,d4,T,U,b⟩:=b.box [U6 a1.ID.ab,U6 a1.ID.Seq,U6 a1.ae,g,h,i,j] 46
 refine wa T U (mv ((.slice none 0 0)) z (mb z (nt ?_)))
 obtain ⟨V,c,G⟩:=ee c
 refine cR (fun a w =>(qe a0 a1) ()=some r∧fz 37 [0,3] [f,Pt x 0] a∧St w0 w I [cells x [U6 a1.ID.ab,U6 a1.ID.Seq,U6 a1.ae,g,h,i,j]] R) ?_ ?_
 {
 refine ww (mi z (nt (au ?_)))
 obtain ⟨W,c⟩:=aS c
 refine bg (fun n a w=>∃ (A:Int),cU (ot a0 a1) n A=some V∧fz 37 [0,3,6] [f,Pt x 0,I6 A] a∧St w0 w I [cells x [U6 a1.ID.ab,U6 a1.ID.Seq,U6 a1.ae,g,h,i,j]] R) W ⟨0,c,fy z,b⟩ ?_
 rintro d5 _ d6 ⟨A,c,⟨d7,rfl⟩,b⟩
 obtain ⟨d8,d9,rfl,c,y⟩:=aU c
 dsimp only [ot] at c
 refine aj (ww (mi z (mv (f) z (mz (bX z uI (ak l)) (mb z (nt (bw c z ?_ ?_)))))))
 {
 refine fun X c=>al (tn (aj (au (aj (rg b 16 [0,0,3,7,15,0,32,127,255,511,511,2047,4095,511,16383,32767] [] mixed (sz (f) 0 z z (si 1 z z ?_)))))))
 obtain ⟨k,Y,c⟩:=bn c
 obtain ⟨H,J,Z⟩:=aV Y
 refine sh _ 2 z (fun w b=>aJ z z uI sI (ak l) H J) (sh _ 3 z (fun w b=>xG z fI z) ?_)
 obtain ⟨e0,b0,K⟩:=Ro.lC l Z
 obtain ⟨L,M,N,O,rfl,b1,b2,b3,b4,-⟩:=b0
 refine sh _ 4 z (fun w b=>xN (cs:=[U6 k.ID.ab,U6 k.ID.Seq]) z (et (o:=0) (K lr b) z)) (sF 5 z z fI (sh _ 6 z (fun w b=>xN (cs:=[U6 a1.ID.ab,U6 a1.ID.Seq]) z (b.fm 0 z)) (sh (.bool _) 7 z (fun w b=>wU z z krA uI krA krA krA uI uI (fun _ _ _=>by kernel_rfl) (fun _ _ _=>by kernel_rfl)) (sb 8 z z (bs c ?_ ?_)))))
 {
 refine fun d c=>sgz f 9 z d z (sgz (I6 _) 10 z d z (sg _ 11 z d (fun w b=>aJ z z uI sI (ak l) H J) (sg _ 12 z d (fun w b=>xN (cs:=[U6 k.ID.ab,U6 k.ID.Seq,U6 k.ae,L,M,N,O]) z (et (o:=0) (K lr b) z)) (sg _ 13 z d (fun w b=>xN z (b.fm 0 tz)) (iN 14 krA (nxe [15] krA z ((av z z z (cvb d)).trans z) ?_))))))
 clear b
 intro w b
 obtain ⟨e2,b5,c⟩:=bn c
 refine wec call202 [.agg #[U6 k.ID.ab,U6 k.ID.Seq,U6 k.ae,L,M,N,O],.agg #[U6 a1.ID.ab,U6 a1.ID.Seq,U6 a1.ae,g,h,i,j]] z z (kcO (Br (b1.mono cS) (b2.mono cS) (b3.mono cS) (b4.mono cS) (m.mono cS) (p.mono cS) (q.mono cS) (s.mono cS) b.to0 b5) fun e3 b=>w0n b (sh (.bool _) 15 z (fun w b=>bi d z z) (bt ?_)))
 refine fun w b=>tn (bw c z ?_ ?_)
 {
 refine fun b6 c=>ww (mv (f) z (mv (f) z (mb z (nt (ar (eo (bh (bh ?_))))))))
 replace c:=bz c y
 refine eo (bh ?_)
 replace c:=bz c G
 cases c
 exact dI [f,.bool false] z (rc z (rc z bl)) ⟨_,f,z,u,l,b.cT⟩
}
 refine fun b6 c=>al (bJ (tn (wrl (mi z (mi z (mi z (nt ?_)))))))
 cases c
 exact ⟨_,nls,_,y,fy z,b.bF⟩
}
 refine fun d c=>so 9 z d (so 10 z d (so 11 z d (so 12 z d (so 13 z d (so 14 z d (sh (.bool _) 15 z (fun w b=>aL d z z) (bt ?_)))))))
 refine fun w b=>tn (cJ z (al (bJ (tn (wrl (mi z (mi z (mi z (nt ?_)))))))))
 cases c
 exact ⟨_,nls,_,y,fy z,b.bF⟩
}
 refine fun X c=>bH (aQ (aQ ?_))
 replace c:=bz c y
 refine cZ (tn ?_)
 cases c
 exact ⟨G,fy z,b.bF⟩
}
 rintro _ e4 ⟨c,⟨e5,rfl⟩,b⟩
 dsimp only [qe] at c
 refine aj ?_
 obtain ⟨e6,c,P⟩:=bn c
 refine vy (fun a w=>∃ (B:(List aw)) (t:Value),(sv) B=some r∧fz 37 [4,5] [t,.bool true] a∧St w0 w I [bp bZ t B] R) ?_ ?_
 {
 refine rg b 9 [0,0,2,7,0,16,63,127,255] [] mixed (sz (f) 0 z z (sF 1 z z fI (sh _ 2 z (fun w b=>xN (cs:=[U6 a1.ID.ab,U6 a1.ID.Seq]) z (b.fm 0 z)) (sh _ 4 z (fun w b=>xN z (b.fm 0 tz)) (bk c fun Q S c=>tZ 3 5 krA ?_ ?_)))))
 {
 refine nx z z fun w b=>wec call71 [f,.agg #[U6 a1.ID.ab,U6 a1.ID.Seq]] z z (kdI (tO l b.to0 S) fun e7 e8 b=>wn [4] b (pkr z z (fun w b=>xN z (b.fO 0 tz)) aT) (e1 5 z z fun w b=>?_))
 obtain ⟨b7,b8,b9,c1,b⟩:=b.lits (E:=bZ) (xs:=[a1]) [[U6 a1.ID.ab,U6 a1.ID.Seq,U6 a1.ae,g,h,i,j]] 46 1 z (bT.cons ⟨_,_,_,_,z,m,p,q,s,oS (ak m),oS (ak p),oS (ak q),oS (ak s)⟩ bT.nil)
 refine cj (v:=(.slice (some ⟨b7,0,none⟩) 1 1)) (w':=b8) z (dH krA b9 c1) (w0n b (e1 6 z z fun w b=>?_))
 obtain ⟨c2,c⟩:=cF c
 replace b:=b.ah
 obtain ⟨C,c3,c4,b⟩:=bO ua underlying125 b b.iL (cP c2 z) 125
 refine cj (v:=C) (w':=c3) z (ck z z c4) (w0n b (sz (C) 7 z z (sb 8 z z (bt ?_))))
 intro w b
 refine ⟨z,?_⟩
 cases c
 exact ⟨(Q++([a1])),C,P,fy z,b.bF⟩
}
 refine nx z z fun w b=>?_
 obtain ⟨c5,c6,c7,c8,b⟩:=b.lits (E:=bZ) (xs:=[a1]) [[U6 a1.ID.ab,U6 a1.ID.Seq,U6 a1.ae,g,h,i,j]] 46 1 z (bT.cons ⟨_,_,_,_,z,m,p,q,s,oS (ak m),oS (ak p),oS (ak q),oS (ak s)⟩ bT.nil)
 refine cj (v:=(.slice (some ⟨c5,0,none⟩) 1 1)) (w':=c6) z (dH krA c7 c8) (wn [2,1,0] b (pkr z z (fun w b=>xN (cs:=[U6 a1.ID.ab,U6 a1.ID.Seq]) z (b.fO 0 z)) (pF z z fI (pz aT))) (e1 3 z z fun w b=>wec call71 [f,.agg #[U6 a1.ID.ab,U6 a1.ID.Seq]] z z (kdI (tO l b.to0 S) fun e9 f0 b=>w0n b (e1 6 z z fun w b=>?_))))
 obtain ⟨c9,c⟩:=cF c
 obtain ⟨D,d0,d1,b⟩:=bO ua underlying125 b b.iL (cP c9 z) 125
 refine cj (v:=D) (w':=d0) z (ck z z d1) (w0n b (sz (D) 7 z z (sb 8 z z (bt ?_))))
 intro w b
 refine ⟨z,?_⟩
 cases c
 exact ⟨(Q++([a1])),D,P,fy z,b.bF⟩
}
 rintro _ f1 ⟨B,t,c,⟨f2,rfl⟩,b⟩
 dsimp only [sv] at c
 refine tn (ar ?_)
 obtain ⟨f3,d2,d3,b⟩:=b.cO
 replace u:=u.trans d2
 cases c
 exact dI [t,.bool true] z (rc z (rc z bl)) ⟨_,t,z,u,d3,b.cT⟩
}
theorem wF {a0:aq} {p0:Value} {a1:aw} {l m n o:Value} (Q:Ro cp I l a1.dO) (S:Ro fU I m a1.aX) (T:Ro cp I n a1.dD) (U:Ro (cr .u8) I o a1.Data) (b:St w0 w I [bm p0 a0] R) {r:(Int×aq)} (c:ld a0 a1=some r) :
  Calls prog 69 #[p0,.agg #[U6 a1.ID.ab,U6 a1.ID.Seq,U6 a1.ae,l,m,n,o]] w fun e w'=>∃ (I':HL),e = .returned (.int .i64 r.1)∧I.le I'∧St w0 w' I' [bm p0 r.2] R:=by {
 unfold ld at c
 refine c0 func69 z z ?_
 have j:=HL.le.refl I
 refine ww ?_
 obtain ⟨q,g9,e7,e8,b⟩:=b.box [U6 a1.ID.ab,U6 a1.ID.Seq,U6 a1.ae,l,m,n,o] 46
 refine wa e7 e8 (mi z (nt (aj ?_)))
 obtain ⟨g,h0,d1,h1,h2,h3,h4,h5,⟨rfl,x,s,y,A⟩,e9⟩:=bS b.ah
 have b:=e9
 obtain ⟨h6,c,d2⟩:=bn c
 refine vy (fun a w=>∃ (k:HL) (B:Int) (C:Int) (t:Int) (V:(List Nat)) (W:(List (Nat×Nat))) (X:(List Nat)) (Y:(List Int)) (u:Bool) (E:Nat) (F:Value) (G:Value) (J:Value) (K:Value),(pO a1 a0) (B,C,t,V,W,X,Y,u)=some r∧fz 65 [0,3,5,6] [Pt g 0,Pt q 0,Pt E 0,.bool u] a∧I.le k∧Ro cp k F V∧Ro fU k G W∧Ro cp k J X∧Ro (cr .u8) k K Y∧St w0 w k [bm (Pt g 0) a0,cells q [U6 a1.ID.ab,U6 a1.ID.Seq,U6 a1.ae,l,m,n,o],cells E [U6 B,U6 C,U6 t,F,G,J,K]] R) ?_ ?_
 {
 have D:=HL.le.refl I
 refine rg b 13 [0,1,3,7,0,16,63,127,255,255,0,1535,4095] [] mixed (sp 0 z z (sp 1 z z (sF 2 z z fI (sL 3 z z (·.bc0 z) (sF 4 z z fI (sh _ 5 z (fun w b=>xN (cs:=[U6 a1.ID.ab,U6 a1.ID.Seq]) z (b.BI 0 z)) (bk c fun h d3 c=>tZ 6 10 krA ?_ ?_)))))))
 {
 refine nx z z fun w b=>wec call70 [d1,.agg #[U6 a1.ID.ab,U6 a1.ID.Seq]] z z ((mU s b.to0 d3).mono ?_)
 rintro _ h7 ⟨h8,b4,b5,b6,b7,rfl,L,d4,d5,d6,d7,b⟩
 refine ⟨_,z,?_⟩
 replace b:=b.of0
 replace x:=x.mono (ro_le L)
 replace s:=s.mono (ro_le L)
 replace y:=y.mono (ro_le L)
 replace A:=A.mono (ro_le L)
 replace D:=D.trans L
 refine w0n b (sz (.tuple #[.agg #[U6 h.1.ID.ab,U6 h.1.ID.Seq,U6 h.1.ae,b4,b5,b6,b7],.bool h.2]) 7 z z (sz (.agg #[U6 h.1.ID.ab,U6 h.1.ID.Seq,U6 h.1.ae,b4,b5,b6,b7]) 8 z z (sb 9 z z (e1 10 z z fun w b=>?_))))
 obtain ⟨d8,f0,f1,f2,b⟩:=b.box [Zu,Zu,Zu,Zs,Zs,Zs,Zs] 46
 refine cj (v:=Pt d8 0) (w':=f0) z (yC krA f1 f2) (wn [9,8,7] b (pz (pz (pz aT))) (e1 11 z z fun w b=>bxe b z sI (oJ 3 z (oC (oS (ak d4)) (oC (oS (ak d5)) (oC (oS (ak d6)) (oC (oS (ak d7)) oN))))) fun h9 b=>wn [9] b (pz aT) (sb 12 z z (bt ?_))))
 intro w b
 refine ⟨z,?_⟩
 cases c
 exact ⟨_,_,_,_,_,_,_,_,_,d8,b4,b5,b6,b7,d2,fy z,D,d4,d5,d6,d7,(aC (Pt g 0) a0 b.bj.bj.bj.bj ⟨z,x,s,y,A⟩).ah.aD.aD.eu⟩
}
 refine nx z z fun w b=>?_
 obtain ⟨d9,f3,f4,f5,b⟩:=b.box [Zu,Zu,Zu,Zs,Zs,Zs,Zs] 46
 refine cj (v:=Pt d9 0) (w':=f3) z (yC krA f4 f5) (wn [5,4,3,2,1,0] b (pkr z z (fun w b=>xN (cs:=[U6 a1.ID.ab,U6 a1.ID.Seq]) z (b.CT 0 z)) (pF z z fI (pL z z (·.bc1 z) (pF z z fI (pz (pz aT)))))) (e1 6 z z fun w b=>wec call70 [d1,.agg #[U6 a1.ID.ab,U6 a1.ID.Seq]] z z ((mU s b.to0 d3).mono ?_)))
 rintro _ i0 ⟨i1,b8,b9,c1,c2,rfl,M,e0,e2,e3,e4,b⟩
 refine ⟨_,z,?_⟩
 replace b:=b.of0
 replace x:=x.mono (ro_le M)
 replace s:=s.mono (ro_le M)
 replace y:=y.mono (ro_le M)
 replace A:=A.mono (ro_le M)
 replace D:=D.trans M
 refine w0n b (sz (.tuple #[.agg #[U6 h.1.ID.ab,U6 h.1.ID.Seq,U6 h.1.ae,b8,b9,c1,c2],.bool h.2]) 7 z z (sz (.agg #[U6 h.1.ID.ab,U6 h.1.ID.Seq,U6 h.1.ae,b8,b9,c1,c2]) 8 z z (sb 9 z z (e1 11 z z fun w b=>bxe b z sI (oJ 3 z (oC (oS (ak e0)) (oC (oS (ak e2)) (oC (oS (ak e3)) (oC (oS (ak e4)) oN))))) fun i2 b=>wn [9] b (pz aT) (sb 12 z z (bt ?_))))))
 intro w b
 refine ⟨z,?_⟩
 cases c
 exact ⟨_,_,_,_,_,_,_,_,_,d9,b8,b9,c1,c2,d2,fy z,D,e0,e2,e3,e4,(aC (Pt g 0) a0 b.bj.bj.bj.bj ⟨z,x,s,y,A⟩).ah.aD.aD.eu⟩
}
 rintro _ i3 ⟨k,B,C,t,V,W,X,Y,u,E,F,G,J,K,c,⟨i4,rfl⟩,N,f6,f7,f8,f9,b⟩
 dsimp only [pO] at c
 replace Q:=Q.mono (ro_le N)
 replace S:=S.mono (ro_le N)
 replace T:=T.mono (ro_le N)
 replace U:=U.mono (ro_le N)
 replace j:=j.trans N
 refine tn ?_
 obtain ⟨i5,c,c3⟩:=ee c
 refine cR (fun a w =>(pK u a1 a0 t) ()=some r∧fz 65 [0,3,5,6] [Pt g 0,Pt q 0,Pt E 0,.bool u] a∧St w0 w k [bm (Pt g 0) a0,cells q [U6 a1.ID.ab,U6 a1.ID.Seq,U6 a1.ae,l,m,n,o],cells E [U6 B,U6 C,U6 t,F,G,J,K]] R) ?_ ?_
 {
 refine ww (mb z (mb z (bs c ?_ ?_)))
 {
 refine fun p c=>gg p (xN z (b.ta 0 tz)) (gg p (xN z (b.fO 0 tz)) (bk c fun i6 g0 c=>dh ((av z z z (cvb p)).trans z) z (gO call89 z (vs:=[.agg #[U6 B,U6 C,U6 t,F,G,J,K],.agg #[U6 a1.ID.ab,U6 a1.ID.Seq,U6 a1.ae,l,m,n,o]]) z) (kcO (ug (a0:=({ID:=({ab:=B,Seq:=C}:cy),ae:=t,dO:=V,aX:=W,dD:=X,Data:=Y}:aw)) (f6.mono cS) (f7.mono cS) (f8.mono cS) (f9.mono cS) (Q.mono cS) (S.mono cS) (T.mono cS) (U.mono cS) b.to0 g0) fun i7 b=>mb (bi p z z) (nt (bw c z ?_ ?_)))))
 {
 refine fun g1 c=>ww (mi z (nt (ar (bh ?_))))
 replace c:=bz c c3
 cases c
 exact pI z z ⟨_,z,j,b.bF⟩
}
 refine fun g1 c=>al (tn ?_)
 cases c
 exact ⟨c3,fy z,b.aD.aD.aD.eu⟩
}
 refine fun p c=>go p (go p (go p (mb (aL p z z) (nt (cJ z (al (tn ?_)))))))
 cases c
 exact ⟨c3,fy z,b.aD.aD.aD.eu⟩
}
 rintro _ i8 ⟨c,⟨i9,rfl⟩,b⟩
 dsimp only [pK] at c
 obtain ⟨j0,c,Z⟩:=ee c
 refine cR (fun a w =>(pS u a1 a0) ()=some r∧fz 65 [0,3,6] [Pt g 0,Pt q 0,.bool u] a∧St w0 w k [bm (Pt g 0) a0,cells q [U6 a1.ID.ab,U6 a1.ID.Seq,U6 a1.ae,l,m,n,o]] R) ?_ ?_
 {
 refine ww (mb z (mb z (bs c ?_ ?_)))
 {
 refine fun d c=>gg d (xF z fI z) (gg d (xF z fI z) (gg d (xL z (b.bc1 z)) (gb d z (gb d z (bs c ?_ ?_)))))
 {
 refine fun i c=>go i (go i (go i (go i (go i (gb d (bi i z z) (mb (bi d z z) (nt (eG z (ww (mi z (nt (ar (bh ?_)))))))))))))
 replace c:=bz c Z
 cases c
 exact pI z z ⟨_,z,j,b.bF⟩
}
 refine fun i c=>gg i (xF z fI z) (gg i (xL z (b.bc1 z)) (gg i (xF z fI z) (gg i (xL z (b.bc2 z)) (gb i z (gb d (aL i z z) (mb (bi d z z) (nt (bw c z ?_ ?_))))))))
 {
 refine fun g2 c=>ww (mi z (nt (ar (bh ?_))))
 replace c:=bz c Z
 cases c
 exact pI z z ⟨_,z,j,b.bF⟩
}
 refine fun g2 c=>al (tn ?_)
 cases c
 exact ⟨Z,fy z,b.ah.ah.cv⟩
}
 refine fun d c=>go d (go d (go d (go d (go d (gu (gu (gu (gu (gu (go d (mb (aL d z z) (nt (cJ z (al (tn ?_)))))))))))))))
 cases c
 exact ⟨Z,fy z,b.ah.ah.cv⟩
}
 rintro _ j1 ⟨c,⟨j2,rfl⟩,b⟩
 dsimp only [pS] at c
 obtain ⟨j3,c,c4⟩:=ee c
 refine cR (fun a w =>(fp a0 a1) ()=some r∧fz 65 [0,3] [Pt g 0,Pt q 0] a∧St w0 w k [bm (Pt g 0) a0,cells q [U6 a1.ID.ab,U6 a1.ID.Seq,U6 a1.ae,l,m,n,o]] R) ?_ ?_
 {
 refine aj ?_
 obtain ⟨j4,j5,j6,j7,j8,j9,k0,k1,⟨c5,c6,c7,c8,c9⟩,g3⟩:=bS b
 replace c5:=ez c5
 subst c5
 have b:=g3
 refine eU b mixed krA (qz (.bool _) z (qz (.bool _) z (qz (.bool _) z (bs c ?_ ?_))))
 {
 refine fun f c=>qg _ f (fun w b=>xF z fI z) (qg _ f (fun w b=>xL z (b.bc4 z)) (qgz (Pt _ _) f z (qgz (Pt _ _) f z (qg _ f (fun w b=>xF z fI z) (qg _ f (fun w b=>xL z (b.bc0 z)) (qgz (.bool _) f z (qh (.bool _) (fun w b=>bi f z z) (hK ?_))))))))
 refine fun w b=>tn (bw c z ?_ ?_)
 {
 refine fun g4 c=>ww (mi z (nt (ar (bh ?_))))
 replace c:=bz c c4
 cases c
 exact pI z z ⟨_,z,j,(aC (Pt g 0) a0 b.aA.aA.aA.aA ⟨z,c6,c7,c8,c9⟩).bF⟩
}
 refine fun g4 c=>al (tn ?_)
 cases c
 exact ⟨c4,fy z,(aC (Pt g 0) a0 b.aA.aA.aA.aA ⟨z,c6,c7,c8,c9⟩).ah.ah.cv⟩
}
 refine fun f c=>qo f (qo f (qo f (qo f (qo f (qo f (qo f (qh (.bool _) (fun w b=>aL f z z) (hK ?_))))))))
 refine fun w b=>tn (cJ z (al (tn ?_)))
 cases c
 exact ⟨c4,fy z,(aC (Pt g 0) a0 b.aA.aA.aA.aA ⟨z,c6,c7,c8,c9⟩).ah.ah.cv⟩
}
 rintro _ k2 ⟨c,⟨k3,rfl⟩,b⟩
 dsimp only [fp] at c
 refine aj ?_
 obtain ⟨k4,k5,g5,k6,k7,k8,k9,l0,⟨d0,b0,b1,b2,b3⟩,g6⟩:=bS b
 replace d0:=ez d0
 subst d0
 have b:=g6
 refine rg b 11 [0,1,3,7,0,31,63,127,127,255,1023] [] mixed (sp 0 z z (sp 1 z z (sF 2 z z fI (sL 3 z z (·.bc0 z) (sh _ 4 z (fun w b=>xN z (b.BI 0 tz)) (e1 5 z z fun w b=>bk c fun e5 g7 c=>wec call150 [g5,.agg #[U6 a1.ID.ab,U6 a1.ID.Seq,U6 a1.ae,l,m,n,o]] z z ((Ax b1 Q S T U b.to0 g7).mono ?_)))))))
 rintro _ l1 ⟨l2,O,rfl,P,e6,b⟩
 refine ⟨_,z,?_⟩
 replace b:=b.of0
 replace b0:=b0.mono (ro_le P)
 replace b1:=b1.mono (ro_le P)
 replace b2:=b2.mono (ro_le P)
 replace b3:=b3.mono (ro_le P)
 replace j:=j.trans P
 refine w0n b (sz (.tuple #[O,.bool e5.2]) 6 z z (sz (O) 7 z z (sb 8 z z (sz (O) 9 z z (sb 10 z z (bt ?_))))))
 refine fun w b=>tn (aj (ww (mb z (mb z (nt (bw c z ?_ ?_))))))
 {
 refine fun g8 c=>ww (mi z (nt (ar (bh ?_))))
 cases c
 exact pI z z ⟨_,z,j,(aC (Pt g 0) a0 b.aA.aA.aA.aA ⟨z,b0,b1,b2,b3⟩).bF⟩
}
 refine fun g8 c=>al (tn (ww (mp z (mv (O) z (mp z (mF z fI (b1k O b z (oS (ak e6)) sI fun l3 b=>nt (ww (mi z (nt (ar ?_)))))))))))
 cases c
 exact pI z z ⟨_,z,j,(aC (Pt g 0) (({a0 with H:=e5.1}:aq)) b.aA.aA.aA.aA ⟨z,b0,e6,b2,b3⟩).bF⟩
}
theorem Bc {a0:(List aP)} {j:Value} {a1:Nat} {a2:Int} (k:Rd dK R I j a0) (b:St w0 w I [] R) {r:(Int)} (c:tV a0 a1 a2=some r) :
  Calls prog 149 #[j,F6 a1,U6 a2] w fun e w'=>e = .returned (.int .i64 r)∧St w0 w' I [] R:=by {
 unfold tV at c
 refine c0 func149 z z (ww (mi z (nt (ww (mi z (nt (aj (ww (mi z (nt (au ?_)))))))))))
 obtain ⟨y,c⟩:=aS c
 refine bg (fun n a w=>∃ (m:Int) (o:Int),cU (oe a0 a1 a2) n (m,o)=some r∧fz 76 [0,1,2,7,8] [j,F6 a1,U6 a2,I6 m,I6 o] a∧St w0 w I [] R) y ⟨((-1):Int),0,c,fy z,b⟩ ?_
 rintro M _ N ⟨m,o,c,⟨O,rfl⟩,b⟩
 obtain ⟨P,Q,rfl,c,l⟩:=aU c
 dsimp only [oe] at c
 refine aj (ww (mi z (mv (j) z (mz (bX z uI (ay k)) (mb z (nt (bw c z ?_ ?_)))))))
 {
 refine fun A c=>al (tn (aj (au (aj (rg b 59 [0,0,3,7,15,0,63,127,255,255,1023,2047,4095,255,16383,32767,65535,131071,262143,524287,1048575,1048575,4194303,8388607,16777215,1048575,1048575,101711871,235929599,504365055,1073741823,2147483647,4294967295,8589934591,8589934591,34359738367,68719476735,137438953471,8589934591,8589934591,833223655423,1932735283199,4131758538751,8796093022207,17592186044415,35184372088831,35184372088831,140737488355327,281474976710655,562949953421311,35184372088831,35184372088831,3412884092616703,7916483719987199,16923682974728191,36028797018963967,72057594037927935,144115188075855871,288230376151711743] [] mixed (sz (j) 0 z z (si 1 z z ?_)))))))
 obtain ⟨B,C,c⟩:=bn c
 obtain ⟨p,q,x⟩:=aV C
 refine sh _ 2 z (fun w b=>aJ z z uI sI (ay k) p q) (sh _ 3 z (fun w b=>xG z fI z) ?_)
 obtain ⟨S,D,E⟩:=Rd.lC k x
 obtain ⟨T,rfl,U,-⟩:=D
 refine sL 4 z z (fun b=>(E lr b) 0 _ z) (sz (F6 _) 5 z z (e1 6 z z fun w b=>bk c fun V F c=>wec call20 [F6 B.At,F6 a1] z z (kcO (fL b.to0 F) fun W b=>w0n b (sb 7 z z (bs c ?_ ?_)))))
 {
 refine fun i c=>sgz j 8 z i z (sgz (I6 _) 9 z i z (sg _ 10 z i (fun w b=>aJ z z uI sI (ay k) p q) (sg _ 11 z i (fun w b=>xG z fI z) ?_)))
 obtain ⟨X,G,s⟩:=Rd.lC k x
 obtain ⟨Y,rfl,Z,-⟩:=G
 refine sg _ 12 z i (fun w b=>xL z ((s lr b) 1 _ z)) (sgz (U6 _) 13 z i z (sgz (.bool _) 14 z i z (sh (.bool _) 15 z (fun w b=>bi i z z) (sb 16 z z (bs c ?_ ?_)))))
 {
 refine fun h c=>sgz (I6 _) 17 z h z (sgz (.bool _) 18 z h z (sgz (.bool _) 19 z h z (bs c ?_ ?_)))
 {
 refine fun f c=>so 20 z f (so 21 z f (so 22 z f (so 23 z f (so 24 z f (so 25 z f (so 26 z f (so 27 z f (so 28 z f (so 29 z f (so 30 z f (sg (.bool _) 31 z h (fun w b=>bi f z z) (sgz (.bool _) 32 z h z (sq 33 z (sq 34 z (sq 35 z (sq 36 z (sq 37 z (sq 38 z (sq 39 z (sq 40 z (sq 41 z (sq 42 z (sq 43 z (sq 44 z (su 45 z (su 46 z (su 47 z (su 48 z (su 49 z (su 50 z (su 51 z (su 52 z (su 53 z (su 54 z (su 55 z (sq 56 z (sg (.bool _) 57 z h (fun w b=>bi z z z) (sh (.bool _) 58 z (fun w b=>bi h z z) (bt ?_)))))))))))))))))))))))))))))))))))))))
 refine fun w b=>tn (eG z (wrl (mi z (mi z (dv (bJ (tn (wrl (mi z (mi z (mi z (nt ?_))))))))))))
 cases c
 exact ⟨_,nls,o,_,l,fy z,b.cT⟩
}
 refine fun f c=>sgz j 20 z f z (sgz (I6 _) 21 z f z ?_)
 obtain ⟨b0,H,c⟩:=bn c
 obtain ⟨t,u,J⟩:=aV H
 refine sg _ 22 z f (fun w b=>aJ z z uI sI (ay k) t u) (sg _ 23 z f (fun w b=>xG z fI z) ?_)
 obtain ⟨b1,K,v⟩:=Rd.lC k J
 obtain ⟨b2,rfl,b3,-⟩:=K
 refine sg _ 24 z f (fun w b=>xL z ((v lr b) 1 _ z)) (sgz j 25 z f z (sgz (I6 _) 26 z f z (sg _ 27 z f (fun w b=>aJ z z uI sI (ay k) p q) (sg _ 28 z f (fun w b=>xG z fI z) (sg _ 29 z f (fun w b=>xL z ((s lr b) 1 _ z)) (sgz (.bool _) 30 z f z (sg (.bool _) 31 z h (fun w b=>aL f z z) (sgz (.bool _) 32 z h z (bs c ?_ ?_)))))))))
 {
 refine fun d c=>so 33 z d (so 34 z d (so 35 z d (so 36 z d (so 37 z d (so 38 z d (so 39 z d (so 40 z d (so 41 z d (so 42 z d (so 43 z d (so 44 z d (su 45 z (su 46 z (su 47 z (su 48 z (su 49 z (su 50 z (su 51 z (su 52 z (su 53 z (su 54 z (su 55 z (so 56 z d (sg (.bool _) 57 z h (fun w b=>bi d z z) (sh (.bool _) 58 z (fun w b=>bi h z z) (bt ?_))))))))))))))))))))))))))
 refine fun w b=>tn (eG z (wrl (mi z (mi z (dv (bJ (tn (wrl (mi z (mi z (mi z (nt ?_))))))))))))
 cases c
 exact ⟨_,nls,o,_,l,fy z,b.cT⟩
}
 refine fun d c=>sgz j 33 z d z (sgz (I6 _) 34 z d z (sg _ 35 z d (fun w b=>aJ z z uI sI (ay k) t u) (sg _ 36 z d (fun w b=>xG z fI z) (sg _ 37 z d (fun w b=>xL z ((v lr b) 1 _ z)) (sgz j 38 z d z (sgz (I6 _) 39 z d z (sg _ 40 z d (fun w b=>aJ z z uI sI (ay k) p q) (sg _ 41 z d (fun w b=>xG z fI z) (sg _ 42 z d (fun w b=>xL z ((s lr b) 1 _ z)) (sgz (.bool _) 43 z d z (sgz (.bool _) 44 z d z (bs c ?_ ?_))))))))))))
 {
 refine fun g c=>sgz j 45 z g z (sgz (I6 _) 46 z g z (sg _ 47 z g (fun w b=>aJ z z uI sI (ay k) t u) (sg _ 48 z g (fun w b=>xG z fI z) (sg _ 49 z g (fun w b=>xL z ((v lr b) 2 _ z)) (sgz j 50 z g z (sgz (I6 _) 51 z g z (sg _ 52 z g (fun w b=>aJ z z uI sI (ay k) p q) (sg _ 53 z g (fun w b=>xG z fI z) (sg _ 54 z g (fun w b=>xL z ((s lr b) 2 _ z)) (sgz (.bool _) 55 z g z (sg (.bool _) 56 z d (fun w b=>bi g z z) (sg (.bool _) 57 z h (fun w b=>aL d z z) (sh (.bool _) 58 z (fun w b=>bi h z z) (bt ?_))))))))))))))
 refine fun w b=>tn (bw c z ?_ ?_)
 {
 refine fun L c=>wrl (mi z (mi z (dv (bJ (tn (wrl (mi z (mi z (mi z (nt ?_))))))))))
 cases c
 exact ⟨_,nls,o,_,l,fy z,b.cT⟩
}
 refine fun L c=>al (bJ (tn (wrl (mi z (mi z (mi z (nt ?_)))))))
 cases c
 exact ⟨_,nls,m,_,l,fy z,b.cT⟩
}
 refine fun g c=>so 45 z g (so 46 z g (so 47 z g (so 48 z g (so 49 z g (so 50 z g (so 51 z g (so 52 z g (so 53 z g (so 54 z g (so 55 z g (sg (.bool _) 56 z d (fun w b=>aL g z z) (sg (.bool _) 57 z h (fun w b=>aL d z z) (sh (.bool _) 58 z (fun w b=>bi h z z) (bt ?_))))))))))))))
 refine fun w b=>tn (cJ z (al (bJ (tn (wrl (mi z (mi z (mi z (nt ?_)))))))))
 cases c
 exact ⟨_,nls,m,_,l,fy z,b.cT⟩
}
 refine fun h c=>so 17 z h (so 18 z h (so 19 z h (su 20 z (su 21 z (su 22 z (su 23 z (su 24 z (su 25 z (su 26 z (su 27 z (su 28 z (su 29 z (su 30 z (so 31 z h (so 32 z h (su 33 z (su 34 z (su 35 z (su 36 z (su 37 z (su 38 z (su 39 z (su 40 z (su 41 z (su 42 z (su 43 z (su 44 z (su 45 z (su 46 z (su 47 z (su 48 z (su 49 z (su 50 z (su 51 z (su 52 z (su 53 z (su 54 z (su 55 z (su 56 z (so 57 z h (sh (.bool _) 58 z (fun w b=>aL h z z) (bt ?_))))))))))))))))))))))))))))))))))))))))))
 refine fun w b=>tn (cJ z (al (bJ (tn (wrl (mi z (mi z (mi z (nt ?_)))))))))
 cases c
 exact ⟨_,nls,m,_,l,fy z,b.cT⟩
}
 refine fun i c=>so 8 z i (so 9 z i (so 10 z i (so 11 z i (so 12 z i (so 13 z i (so 14 z i (sh (.bool _) 15 z (fun w b=>aL i z z) (sb 16 z z (sq 17 z (sq 18 z (sq 19 z (su 20 z (su 21 z (su 22 z (su 23 z (su 24 z (su 25 z (su 26 z (su 27 z (su 28 z (su 29 z (su 30 z (sq 31 z (sq 32 z (su 33 z (su 34 z (su 35 z (su 36 z (su 37 z (su 38 z (su 39 z (su 40 z (su 41 z (su 42 z (su 43 z (su 44 z (su 45 z (su 46 z (su 47 z (su 48 z (su 49 z (su 50 z (su 51 z (su 52 z (su 53 z (su 54 z (su 55 z (su 56 z (sq 57 z (sh (.bool _) 58 z (fun w b=>aL z z z) (bt ?_)))))))))))))))))))))))))))))))))))))))))))))))))))
 refine fun w b=>tn (cJ z (al (bJ (tn (wrl (mi z (mi z (mi z (nt ?_)))))))))
 cases c
 exact ⟨_,nls,m,_,l,fy z,b.cT⟩
}
 refine fun A c=>bH (aQ (aQ ?_))
 replace c:=bz c l
 refine cZ (tn (ww (mi z (mi z (nt (ar ?_))))))
 obtain rfl:=sj c
 exact pI z z ⟨z,b.cT⟩
}
end Go.Proofs.YtgnkkopjkgdieaaGreat
