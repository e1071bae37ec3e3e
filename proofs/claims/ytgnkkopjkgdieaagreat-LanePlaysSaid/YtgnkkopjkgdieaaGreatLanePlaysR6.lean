/- A part of the proof. -/
import Derived.Test.YtgnkkopjkgdieaaGreatLanePlaysR5
set_option linter.unusedVariables false
set_option linter.unusedSimpArgs false
set_option maxRecDepth 100000
set_option maxHeartbeats 4000000
namespace Go.Proofs.YtgnkkopjkgdieaaGreat
open Go Go.V
open _root_.Go.Proofs.Tryz IntKind
variable {w0 w:World} {I:HL} {R:SP}
attribute [local irreducible] wpList Code.wp wpQuiet Calls bodyPost Oper.wp wpS Nx gE YieldsIn
theorem vm {a0:(List al)} {f:Value} {a1:al} {g h i j:Value} (l:Ro bm I f a0) (m:Ro bV I g a1.Gets) (p:Ro gn I h a1.Scans) (q:Ro bV I i a1.Puts) (s:Ro (cg .u8) I j a1.Data) (b:St w0 w I [] R) {r:((List al)×Bool)} (c:nZ a0 a1=some r) :
  Calls prog 150 #[f,.agg #[U6 a1.ID.Session,U6 a1.ID.Seq,U6 a1.Epoch,g,h,i,j]] w fun e w'=>∃ (I':HL) (F:Value),e = .returned (.tuple #[F,.bool r.2])∧I.le I'∧Ro bm I' F r.1∧St w0 w' I' [] R:=by {
 unfold nZ at c
 refine c0 func150 z ntmps150 ?_
 have u:=HL.le.refl I
 refine ww ?_
 obtain ⟨x,d4,T,U,b⟩:=b.box [U6 a1.ID.Session,U6 a1.ID.Seq,U6 a1.Epoch,g,h,i,j] 46
 refine wa T U (mv ((.slice none 0 0)) z (mb z (nt ?_)))
 obtain ⟨V,c,G⟩:=dY c
 refine cQ (fun a w =>(mK a0 a1) ()=some r∧fz 37 [0,3] [f,Pt x 0] a∧St w0 w I [cells x [U6 a1.ID.Session,U6 a1.ID.Seq,U6 a1.Epoch,g,h,i,j]] R) ?_ ?_
 {
 refine ww (mi z (nt (wp_block ?_)))
 obtain ⟨W,c⟩:=aS c
 refine bf (fun n a w=>∃ (A:Int),cP (lx a0 a1) n A=some V∧fz 37 [0,3,6] [f,Pt x 0,I6 A] a∧St w0 w I [cells x [U6 a1.ID.Session,U6 a1.ID.Seq,U6 a1.Epoch,g,h,i,j]] R) W ⟨0,c,fy z,b⟩ ?_
 rintro d5 _ d6 ⟨A,c,⟨d7,rfl⟩,b⟩
 obtain ⟨d8,d9,rfl,c,y⟩:=aV c
 dsimp only [lx] at c
 refine wp_seq (ww (mi z (mv (f) z (mz (bW z underlying125 (ag l)) (mb z (nt (bw c z ?_ ?_)))))))
 {
 intro X c
 refine wp_skip (tn (wp_seq (wp_block (wp_seq (rg b 16 [0,0,3,7,15,0,32,127,255,511,511,2047,4095,511,16383,32767] [] mixed (sz (f) 0 z z (si 1 z z ?_)))))))
 obtain ⟨k,Y,c⟩:=bn c
 obtain ⟨H,J,Z⟩:=aK Y
 refine sh _ 2 z (fun w b=>az z z underlying125 sizeOf46 (ag l) H J) (sh _ 3 z (fun w b=>aR z underlying46 z sizeOf28 z) ?_)
 obtain ⟨e0,b0,K⟩:=Ro.jV l Z
 obtain ⟨L,M,N,O,rfl,b1,b2,b3,b4,-⟩:=b0
 refine sh _ 4 z (fun w b=>av (cs:=[U6 k.ID.Session,U6 k.ID.Seq]) z isAgg28 sizeOf28 (dO (o:=0) (K lr b) z)) (sf 5 z z underlying46 z sizeOf28 (sh _ 6 z (fun w b=>av (cs:=[U6 a1.ID.Session,U6 a1.ID.Seq]) z isAgg28 sizeOf28 (b.eD 0 z)) (sh (.bool _) 7 z (fun w b=>rJ z z (by kernel_rfl) underlying28 (by kernel_rfl) (by kernel_rfl) (by kernel_rfl) underlying26 underlying26 (fun _ _ _=>by kernel_rfl) (fun _ _ _=>by kernel_rfl)) (sb 8 z z (bs c ?_ ?_)))))
 {
 intro d c
 refine sgz f 9 z d z (sgz (I6 _) 10 z d z (sg _ 11 z d (fun w b=>az z z underlying125 sizeOf46 (ag l) H J) (sg _ 12 z d (fun w b=>av (cs:=[U6 k.ID.Session,U6 k.ID.Seq,U6 k.Epoch,L,M,N,O]) z isAgg46 sizeOf46 (dO (o:=0) (K lr b) z)) (sg _ 13 z d (fun w b=>av (cs:=[U6 a1.ID.Session,U6 a1.ID.Seq,U6 a1.Epoch,g,h,i,j]) z isAgg46 sizeOf46 (b.eD 0 z)) (ia 14 (by kernel_rfl) (nxe [15] (by kernel_rfl) z ((ar z z z (cvb d)).trans z) ?_))))))
 clear b
 intro w b
 obtain ⟨e2,b5,c⟩:=bn c
 refine wec call202 [.agg #[U6 k.ID.Session,U6 k.ID.Seq,U6 k.Epoch,L,M,N,O],.agg #[U6 a1.ID.Session,U6 a1.ID.Seq,U6 a1.Epoch,g,h,i,j]] z z (kca (vI (b1.mono cz) (b2.mono cz) (b3.mono cz) (b4.mono cz) (m.mono cz) (p.mono cz) (q.mono cz) (s.mono cz) b.to0 b5) fun e3 b=>?_)
 replace b:=b.of0
 refine w0n b (sh (.bool _) 15 z (fun w b=>aM d z z) (bi ?_))
 intro w b
 refine tn (bw c z ?_ ?_)
 {
 intro b6 c
 refine ww (mv (f) z (mv (f) z (mb z (nt (wp_ret (dj (aI (aI ?_))))))))
 replace c:=bg c y
 refine dj (aI ?_)
 replace c:=bg c G
 cases c
 exact aU [f,.bool false] results150 (rc z (rc z ah)) ⟨_,f,z,u,l,b.bQ⟩
}
 {
 intro b6 c
 refine wp_skip (bB (tn (wrl (mi z (mi z (mi z (nt ?_)))))))
 cases c
 exact ⟨_,nls,_,y,fy z,b.bo⟩
}
}
 {
 intro d c
 refine so 9 z d (so 10 z d (so 11 z d (so 12 z d (so 13 z d (so 14 z d (sh (.bool _) 15 z (fun w b=>aE d z z) (bi ?_)))))))
 intro w b
 refine tn (bT z (wp_skip (bB (tn (wrl (mi z (mi z (mi z (nt ?_)))))))))
 cases c
 exact ⟨_,nls,_,y,fy z,b.bo⟩
}
}
 {
 intro X c
 refine wp_exit (aQ (aQ ?_))
 replace c:=bg c y
 refine cZ (tn ?_)
 cases c
 exact ⟨G,fy z,b.bo⟩
}
}
 {
 rintro _ e4 ⟨c,⟨e5,rfl⟩,b⟩
 dsimp only [mK] at c
 refine wp_seq ?_
 obtain ⟨e6,c,P⟩:=bn c
 refine qT (fun a w=>∃ (B:(List al)) (t:Value),(ow) B=some r∧fz 37 [4,5] [t,.bool true] a∧St w0 w I [aZ bm t B] R) ?_ ?_
 {
 refine rg b 9 [0,0,2,7,0,16,63,127,255] [] mixed (sz (f) 0 z z (sf 1 z z underlying46 z sizeOf28 (sh _ 2 z (fun w b=>av (cs:=[U6 a1.ID.Session,U6 a1.ID.Seq]) z isAgg28 sizeOf28 (b.eD 0 z)) (sh _ 4 z (fun w b=>av (cs:=[U6 a1.ID.Session,U6 a1.ID.Seq,U6 a1.Epoch,g,h,i,j]) z isAgg46 sizeOf46 (b.eD 0 z)) ?_))))
 obtain ⟨Q,S,c⟩:=bn c
 refine pC 3 5 (by kernel_rfl) ?_ ?_
 {
 refine nx z z fun w b=>wec call71 [f,.agg #[U6 a1.ID.Session,U6 a1.ID.Seq]] z z (kcb (pJ l b.to0 S) fun e7 e8 b=>?_)
 replace b:=b.of1
 refine wn [4] b (pkr z z (fun w b=>av (cs:=[U6 a1.ID.Session,U6 a1.ID.Seq,U6 a1.Epoch,g,h,i,j]) z isAgg46 sizeOf46 (b.eI 0 z)) bu) (e1 5 z z fun w b=>?_)
 obtain ⟨b7,b8,b9,c1,b⟩:=b.er (E:=bm) (xs:=[a1]) [[U6 a1.ID.Session,U6 a1.ID.Seq,U6 a1.Epoch,g,h,i,j]] 46 1 z (bz.cons ⟨_,_,_,_,z,m,p,q,s,oS (ag m),oS (ag p),oS (ag q),oS (ag s)⟩ bz.nil)
 refine bS (v:=(.slice (some ⟨b7,0,none⟩) 1 1)) (w':=b8) z (di (by kernel_rfl) b9 c1) (w0n b (e1 6 z z fun w b=>?_))
 obtain ⟨c2,c⟩:=cw c
 replace b:=b.ab
 obtain ⟨C,c3,c4,b⟩:=bE qx underlying125 b b.jr (cF c2 z) 125
 refine bS (v:=C) (w':=c3) z (bU z z c4) (w0n b (sz (C) 7 z z (sb 8 z z (bi ?_))))
 intro w b
 refine ⟨z,?_⟩
 cases c
 exact ⟨(Q++([a1])),C,P,fy z,b.bo⟩
}
 {
 refine nx z z fun w b=>?_
 obtain ⟨c5,c6,c7,c8,b⟩:=b.er (E:=bm) (xs:=[a1]) [[U6 a1.ID.Session,U6 a1.ID.Seq,U6 a1.Epoch,g,h,i,j]] 46 1 z (bz.cons ⟨_,_,_,_,z,m,p,q,s,oS (ag m),oS (ag p),oS (ag q),oS (ag s)⟩ bz.nil)
 refine bS (v:=(.slice (some ⟨c5,0,none⟩) 1 1)) (w':=c6) z (di (by kernel_rfl) c7 c8) (wn [2,1,0] b (pkr z z (fun w b=>av (cs:=[U6 a1.ID.Session,U6 a1.ID.Seq]) z isAgg28 sizeOf28 (b.eI 0 z)) (pf z z underlying46 z sizeOf28 (pz bu))) (e1 3 z z fun w b=>wec call71 [f,.agg #[U6 a1.ID.Session,U6 a1.ID.Seq]] z z (kcb (pJ l b.to0 S) fun e9 f0 b=>?_)))
 replace b:=b.of1
 refine w0n b (e1 6 z z fun w b=>?_)
 obtain ⟨c9,c⟩:=cw c
 obtain ⟨D,d0,d1,b⟩:=bE qx underlying125 b b.jr (cF c9 z) 125
 refine bS (v:=D) (w':=d0) z (bU z z d1) (w0n b (sz (D) 7 z z (sb 8 z z (bi ?_))))
 intro w b
 refine ⟨z,?_⟩
 cases c
 exact ⟨(Q++([a1])),D,P,fy z,b.bo⟩
}
}
 {
 rintro _ f1 ⟨B,t,c,⟨f2,rfl⟩,b⟩
 dsimp only [ow] at c
 refine tn (wp_ret ?_)
 obtain ⟨I646,d2,d3,b⟩:=b.cK
 replace u:=u.trans d2
 cases c
 exact aU [t,.bool true] results150 (rc z (rc z ah)) ⟨_,t,z,u,d3,b.bQ⟩
}
}
}
theorem sr {a0:ai} {p0:Value} {a1:al} {j k l m:Value} (P:Ro bV I j a1.Gets) (Q:Ro gn I k a1.Scans) (S:Ro bV I l a1.Puts) (T:Ro (cg .u8) I m a1.Data) (b:St w0 w I [aL p0 a0] R) {r:(Int×ai)} (c:iV a0 a1=some r) :
  Calls prog 69 #[p0,.agg #[U6 a1.ID.Session,U6 a1.ID.Seq,U6 a1.Epoch,j,k,l,m]] w fun e w'=>∃ (I':HL),e = .returned (.int .i64 r.1)∧I.le I'∧St w0 w' I' [aL p0 r.2] R:=by {
 unfold iV at c
 refine c0 func69 z ntmps69 ?_
 have n:=HL.le.refl I
 refine ww ?_
 obtain ⟨p,g8,e6,e7,b⟩:=b.box [U6 a1.ID.Session,U6 a1.ID.Seq,U6 a1.Epoch,j,k,l,m] 46
 refine wa e6 e7 (mi z (nt (wp_seq ?_)))
 obtain ⟨g,g9,d0,h0,h1,h2,h3,h4,⟨rfl,y,q,A,B⟩,e8⟩:=bd b.ab
 have b:=e8
 obtain ⟨h5,c,d1⟩:=bn c
 refine qT (fun a w=>∃ (I466:HL) (t:Int) (u:Int) (s:Int) (U:(List Nat)) (V:(List (Nat×Nat))) (W:(List Nat)) (X:(List Int)) (x:Bool) (J:Nat) (C:Value) (D:Value) (E:Value) (F:Value),(mw a1 a0) (t,u,s,U,V,W,X,x)=some r∧fz 65 [0,3,5,6] [Pt g 0,Pt p 0,Pt J 0,.bool x] a∧I.le I466∧Ro bV I466 C U∧Ro gn I466 D V∧Ro bV I466 E W∧Ro (cg .u8) I466 F X∧St w0 w I466 [aL (Pt g 0) a0,cells p [U6 a1.ID.Session,U6 a1.ID.Seq,U6 a1.Epoch,j,k,l,m],cells J [U6 t,U6 u,U6 s,C,D,E,F]] R) ?_ ?_
 {
 have G:=HL.le.refl I
 refine rg b 13 [0,1,3,7,0,16,63,127,255,255,0,1535,4095] [] mixed (sp 0 z z (sp 1 z z (sf 2 z z underlying130 z sizeOf125 (sl 3 z z isAgg125 (fun w b=>b.bc0 z) (sf 4 z z underlying46 z sizeOf28 (sh _ 5 z (fun w b=>av (cs:=[U6 a1.ID.Session,U6 a1.ID.Seq]) z isAgg28 sizeOf28 (b.wq 0 z)) ?_))))))
 obtain ⟨h,d2,c⟩:=bn c
 refine pC 6 10 (by kernel_rfl) ?_ ?_
 {
 refine nx z z fun w b=>wec call70 [d0,.agg #[U6 a1.ID.Session,U6 a1.ID.Seq]] z z ((kc q b.to0 d2).mono ?_)
 rintro _ h6 ⟨I393,b3,b4,b5,b6,rfl,K,d3,d4,d5,d6,b⟩
 refine ⟨_,z,?_⟩
 replace b:=b.of0
 replace y:=y.mono (ro_le K)
 replace q:=q.mono (ro_le K)
 replace A:=A.mono (ro_le K)
 replace B:=B.mono (ro_le K)
 replace G:=G.trans K
 refine w0n b (sz (.tuple #[.agg #[U6 h.1.ID.Session,U6 h.1.ID.Seq,U6 h.1.Epoch,b3,b4,b5,b6],.bool h.2]) 7 z z (sz (.agg #[U6 h.1.ID.Session,U6 h.1.ID.Seq,U6 h.1.Epoch,b3,b4,b5,b6]) 8 z z (sb 9 z z (e1 10 z z fun w b=>?_))))
 obtain ⟨d7,e9,f0,f1,b⟩:=b.box [Zu,Zu,Zu,Zs,Zs,Zs,Zs] 46
 refine bS (v:=Pt d7 0) (w':=e9) z (tO (by kernel_rfl) f0 f1) (wn [9,8,7] b (pz (pz (pz bu))) (e1 11 z z fun w b=>bxe b z sizeOf46 (oJ 3 z (oC (oS (ag d3)) (oC (oS (ag d4)) (oC (oS (ag d5)) (oC (oS (ag d6)) oN))))) fun h7 b=>wn [9] b (pz bu) (sb 12 z z (bi ?_))))
 intro w b
 refine ⟨z,?_⟩
 cases c
 exact ⟨_,_,_,_,_,_,_,_,_,d7,b3,b4,b5,b6,d1,fy z,G,d3,d4,d5,d6,(aj (Pt g 0) a0 b.aY.aY.aY.aY ⟨z,y,q,A,B⟩).ab.ay.ay.dC⟩
}
 {
 refine nx z z fun w b=>?_
 obtain ⟨d8,f2,f3,f4,b⟩:=b.box [Zu,Zu,Zu,Zs,Zs,Zs,Zs] 46
 refine bS (v:=Pt d8 0) (w':=f2) z (tO (by kernel_rfl) f3 f4) (wn [5,4,3,2,1,0] b (pkr z z (fun w b=>av (cs:=[U6 a1.ID.Session,U6 a1.ID.Seq]) z isAgg28 sizeOf28 (b.xB 0 z)) (pf z z underlying46 z sizeOf28 (pkr z z (fun w b=>ao z isAgg125 (b.bc1 z)) (pf z z underlying130 z sizeOf125 (pz (pz bu)))))) (e1 6 z z fun w b=>wec call70 [d0,.agg #[U6 a1.ID.Session,U6 a1.ID.Seq]] z z ((kc q b.to0 d2).mono ?_)))
 rintro _ h8 ⟨I428,b7,b8,b9,c1,rfl,L,d9,e0,e2,e3,b⟩
 refine ⟨_,z,?_⟩
 replace b:=b.of0
 replace y:=y.mono (ro_le L)
 replace q:=q.mono (ro_le L)
 replace A:=A.mono (ro_le L)
 replace B:=B.mono (ro_le L)
 replace G:=G.trans L
 refine w0n b (sz (.tuple #[.agg #[U6 h.1.ID.Session,U6 h.1.ID.Seq,U6 h.1.Epoch,b7,b8,b9,c1],.bool h.2]) 7 z z (sz (.agg #[U6 h.1.ID.Session,U6 h.1.ID.Seq,U6 h.1.Epoch,b7,b8,b9,c1]) 8 z z (sb 9 z z (e1 11 z z fun w b=>bxe b z sizeOf46 (oJ 3 z (oC (oS (ag d9)) (oC (oS (ag e0)) (oC (oS (ag e2)) (oC (oS (ag e3)) oN))))) fun h9 b=>wn [9] b (pz bu) (sb 12 z z (bi ?_))))))
 intro w b
 refine ⟨z,?_⟩
 cases c
 exact ⟨_,_,_,_,_,_,_,_,_,d8,b7,b8,b9,c1,d1,fy z,G,d9,e0,e2,e3,(aj (Pt g 0) a0 b.aY.aY.aY.aY ⟨z,y,q,A,B⟩).ab.ay.ay.dC⟩
}
}
 {
 rintro _ i0 ⟨I466,t,u,s,U,V,W,X,x,J,C,D,E,F,c,⟨i1,rfl⟩,M,f5,f6,f7,f8,b⟩
 dsimp only [mw] at c
 replace P:=P.mono (ro_le M)
 replace Q:=Q.mono (ro_le M)
 replace S:=S.mono (ro_le M)
 replace T:=T.mono (ro_le M)
 replace n:=n.trans M
 refine tn ?_
 obtain ⟨i2,c,c2⟩:=dY c
 refine cQ (fun a w =>(my x a1 a0 s) ()=some r∧fz 65 [0,3,5,6] [Pt g 0,Pt p 0,Pt J 0,.bool x] a∧St w0 w I466 [aL (Pt g 0) a0,cells p [U6 a1.ID.Session,U6 a1.ID.Seq,U6 a1.Epoch,j,k,l,m],cells J [U6 t,U6 u,U6 s,C,D,E,F]] R) ?_ ?_
 {
 refine ww (mb z (mb z (bs c ?_ ?_)))
 {
 intro o c
 refine gg o (av (cs:=[U6 t,U6 u,U6 s,C,D,E,F]) z isAgg46 sizeOf46 (b.pQ 0 z)) (gg o (av (cs:=[U6 a1.ID.Session,U6 a1.ID.Seq,U6 a1.Epoch,j,k,l,m]) z isAgg46 sizeOf46 (b.eI 0 z)) ?_)
 obtain ⟨i3,f9,c⟩:=bn c
 refine de ((ar z z z (cvb o)).trans z) z (js call89 z (vs:=[.agg #[U6 t,U6 u,U6 s,C,D,E,F],.agg #[U6 a1.ID.Session,U6 a1.ID.Seq,U6 a1.Epoch,j,k,l,m]]) z) (kca (pF (a0:=({ID:=({Session:=t,Seq:=u}:bK),Epoch:=s,Gets:=U,Scans:=V,Puts:=W,Data:=X}:al)) (f5.mono cz) (f6.mono cz) (f7.mono cz) (f8.mono cz) (P.mono cz) (Q.mono cz) (S.mono cz) (T.mono cz) b.to0 f9) fun i4 b=>?_)
 replace b:=b.of0
 refine mb (aM o z z) (nt (bw c z ?_ ?_))
 {
 intro g0 c
 refine ww (mi z (nt (wp_ret (aI ?_))))
 replace c:=bg c c2
 cases c
 exact aU [Zi] results69 (rc z ah) ⟨_,z,n,b.bo⟩
}
 {
 intro g0 c
 refine wp_skip (tn ?_)
 cases c
 exact ⟨c2,fy z,b.ay.ay.ay.dC⟩
}
}
 {
 intro o c
 refine go o (go o (go o (mb (aE o z z) (nt (bT z (wp_skip (tn ?_)))))))
 cases c
 exact ⟨c2,fy z,b.ay.ay.ay.dC⟩
}
}
 {
 rintro _ i5 ⟨c,⟨i6,rfl⟩,b⟩
 dsimp only [my] at c
 obtain ⟨i7,c,Y⟩:=dY c
 refine cQ (fun a w =>(mr x a1 a0) ()=some r∧fz 65 [0,3,6] [Pt g 0,Pt p 0,.bool x] a∧St w0 w I466 [aL (Pt g 0) a0,cells p [U6 a1.ID.Session,U6 a1.ID.Seq,U6 a1.Epoch,j,k,l,m]] R) ?_ ?_
 {
 refine ww (mb z (mb z (bs c ?_ ?_)))
 {
 intro d c
 refine gg d (aO z underlying46 z sizeOf28 z) (gg d (aO z underlying28 z sizeOf26 z) (gg d (ao z isAgg26 (b.bc1 z)) (gb d z (gb d z (bs c ?_ ?_)))))
 {
 intro i c
 refine go i (go i (go i (go i (go i (gb d (aM i z z) (mb (aM d z z) (nt (dq z (ww (mi z (nt (wp_ret (aI ?_)))))))))))))
 replace c:=bg c Y
 cases c
 exact aU [I6 8] results69 (rc z ah) ⟨_,z,n,b.bo⟩
}
 {
 intro i c
 refine gg i (aO z underlying46 z sizeOf26 z) (gg i (ao z isAgg26 (b.bc1 z)) (gg i (aO z underlying46 z sizeOf26 z) (gg i (ao z isAgg26 (b.bc2 z)) (gb i z (gb d (aE i z z) (mb (aM d z z) (nt (bw c z ?_ ?_))))))))
 {
 intro g1 c
 refine ww (mi z (nt (wp_ret (aI ?_))))
 replace c:=bg c Y
 cases c
 exact aU [I6 8] results69 (rc z ah) ⟨_,z,n,b.bo⟩
}
 {
 intro g1 c
 refine wp_skip (tn ?_)
 cases c
 exact ⟨Y,fy z,b.ab.ab.cd⟩
}
}
}
 {
 intro d c
 refine go d (go d (go d (go d (go d (gu (gu (gu (gu (gu (go d (mb (aE d z z) (nt (bT z (wp_skip (tn ?_)))))))))))))))
 cases c
 exact ⟨Y,fy z,b.ab.ab.cd⟩
}
}
 {
 rintro _ i8 ⟨c,⟨i9,rfl⟩,b⟩
 dsimp only [mr] at c
 obtain ⟨j0,c,c3⟩:=dY c
 refine cQ (fun a w =>(dV a0 a1) ()=some r∧fz 65 [0,3] [Pt g 0,Pt p 0] a∧St w0 w I466 [aL (Pt g 0) a0,cells p [U6 a1.ID.Session,U6 a1.ID.Seq,U6 a1.Epoch,j,k,l,m]] R) ?_ ?_
 {
 refine wp_seq ?_
 obtain ⟨j1,j2,j3,j4,j5,j6,j7,j8,⟨c4,c5,c6,c7,c8⟩,g2⟩:=bd b
 replace c4:=dF c4
 subst c4
 have b:=g2
 refine dL b mixed (by kernel_rfl) (qz (.bool _) z (qz (.bool _) z (qz (.bool _) z (bs c ?_ ?_))))
 {
 intro f c
 refine qg _ f (fun w b=>aO z underlying46 z sizeOf26 z) (qg _ f (fun w b=>ao z isAgg26 (b.bc4 z)) (qgz (Pt _ _) f z (qgz (Pt _ _) f z (qg _ f (fun w b=>aO z underlying130 z sizeOf26 z) (qg _ f (fun w b=>ao z isAgg26 (b.bc0 z)) (qgz (.bool _) f z (qh (.bool _) (fun w b=>aM f z z) (fK ?_))))))))
 intro w b
 refine tn (bw c z ?_ ?_)
 {
 intro g3 c
 refine ww (mi z (nt (wp_ret (aI ?_))))
 replace c:=bg c c3
 cases c
 exact aU [I6 9] results69 (rc z ah) ⟨_,z,n,(aj (Pt g 0) a0 b.ap.ap.ap.ap ⟨z,c5,c6,c7,c8⟩).bo⟩
}
 {
 intro g3 c
 refine wp_skip (tn ?_)
 cases c
 exact ⟨c3,fy z,(aj (Pt g 0) a0 b.ap.ap.ap.ap ⟨z,c5,c6,c7,c8⟩).ab.ab.cd⟩
}
}
 {
 intro f c
 refine qo f (qo f (qo f (qo f (qo f (qo f (qo f (qh (.bool _) (fun w b=>aE f z z) (fK ?_))))))))
 intro w b
 refine tn (bT z (wp_skip (tn ?_)))
 cases c
 exact ⟨c3,fy z,(aj (Pt g 0) a0 b.ap.ap.ap.ap ⟨z,c5,c6,c7,c8⟩).ab.ab.cd⟩
}
}
 {
 rintro _ j9 ⟨c,⟨k0,rfl⟩,b⟩
 dsimp only [dV] at c
 refine wp_seq ?_
 obtain ⟨k1,k2,g4,k3,k4,k5,k6,k7,⟨c9,Z,b0,b1,b2⟩,g5⟩:=bd b
 replace c9:=dF c9
 subst c9
 have b:=g5
 refine rg b 11 [0,1,3,7,0,31,63,127,127,255,1023] [] mixed (sp 0 z z (sp 1 z z (sf 2 z z underlying130 z sizeOf125 (sl 3 z z isAgg125 (fun w b=>b.bc0 z) (sh _ 4 z (fun w b=>av (cs:=[U6 a1.ID.Session,U6 a1.ID.Seq,U6 a1.Epoch,j,k,l,m]) z isAgg46 sizeOf46 (b.wq 0 z)) (e1 5 z z fun w b=>?_))))))
 obtain ⟨e4,g6,c⟩:=bn c
 refine wec call150 [g4,.agg #[U6 a1.ID.Session,U6 a1.ID.Seq,U6 a1.Epoch,j,k,l,m]] z z ((vm b0 P Q S T b.to0 g6).mono ?_)
 rintro _ k8 ⟨I543,N,rfl,O,e5,b⟩
 refine ⟨_,z,?_⟩
 replace b:=b.of0
 replace Z:=Z.mono (ro_le O)
 replace b0:=b0.mono (ro_le O)
 replace b1:=b1.mono (ro_le O)
 replace b2:=b2.mono (ro_le O)
 replace n:=n.trans O
 refine w0n b (sz (.tuple #[N,.bool e4.2]) 6 z z (sz (N) 7 z z (sb 8 z z (sz (N) 9 z z (sb 10 z z (bi ?_))))))
 intro w b
 refine tn (wp_seq (ww (mb z (mb z (nt (bw c z ?_ ?_))))))
 {
 intro g7 c
 refine ww (mi z (nt (wp_ret (aI ?_))))
 cases c
 exact aU [I6 8] results69 (rc z ah) ⟨_,z,n,(aj (Pt g 0) a0 b.ap.ap.ap.ap ⟨z,Z,b0,b1,b2⟩).bo⟩
}
 {
 intro g7 c
 refine wp_skip (tn (ww (mp z (mv (N) z (mp z (mf z underlying130 z sizeOf125 (b1k N b z (oS (ag e5)) sizeOf125 fun k9 b=>nt (ww (mi z (nt (wp_ret ?_)))))))))))
 cases c
 exact aU [Zi] results69 (rc z ah) ⟨_,z,n,(aj (Pt g 0) (({a0 with H:=e4.1}:ai)) b.ap.ap.ap.ap ⟨z,Z,e5,b1,b2⟩).bo⟩
}
}
}
}
}
}
theorem vE {a0:(List aB)} {j:Value} {a1:Nat} {a2:Int} (k:Rd cS R I j a0) (b:St w0 w I [] R) {r:(Int)} (c:pM a0 a1 a2=some r) :
  Calls prog 149 #[j,F6 a1,U6 a2] w fun e w'=>e = .returned (.int .i64 r)∧St w0 w' I [] R:=by {
 unfold pM at c
 refine c0 func149 z ntmps149 (ww (mi z (nt (ww (mi z (nt (wp_seq (ww (mi z (nt (wp_block ?_)))))))))))
 obtain ⟨y,c⟩:=aS c
 refine bf (fun n a w=>∃ (l:Int) (o:Int),cP (ly a0 a1 a2) n (l,o)=some r∧fz 76 [0,1,2,7,8] [j,F6 a1,U6 a2,I6 l,I6 o] a∧St w0 w I [] R) y ⟨((-1):Int),0,c,fy z,b⟩ ?_
 rintro M _ N ⟨l,o,c,⟨O,rfl⟩,b⟩
 obtain ⟨P,Q,rfl,c,m⟩:=aV c
 dsimp only [ly] at c
 refine wp_seq (ww (mi z (mv (j) z (mz (bW z underlying124 (au k)) (mb z (nt (bw c z ?_ ?_)))))))
 {
 intro A c
 refine wp_skip (tn (wp_seq (wp_block (wp_seq (rg b 59 [0,0,3,7,15,0,63,127,255,255,1023,2047,4095,255,16383,32767,65535,131071,262143,524287,1048575,1048575,4194303,8388607,16777215,1048575,1048575,101711871,235929599,504365055,1073741823,2147483647,4294967295,8589934591,8589934591,34359738367,68719476735,137438953471,8589934591,8589934591,833223655423,1932735283199,4131758538751,8796093022207,17592186044415,35184372088831,35184372088831,140737488355327,281474976710655,562949953421311,35184372088831,35184372088831,3412884092616703,7916483719987199,16923682974728191,36028797018963967,72057594037927935,144115188075855871,288230376151711743] [] mixed (sz (j) 0 z z (si 1 z z ?_)))))))
 obtain ⟨B,C,c⟩:=bn c
 obtain ⟨p,q,x⟩:=aK C
 refine sh _ 2 z (fun w b=>az z z underlying124 sizeOf139 (au k) p q) (sh _ 3 z (fun w b=>aR z underlying139 z sizeOf37 z) ?_)
 obtain ⟨S,D,E⟩:=Rd.jV k x
 obtain ⟨T,rfl,U,-⟩:=D
 refine sl 4 z z isAgg37 (fun w b=>(E lr b) 0 _ z) (sz (F6 _) 5 z z (e1 6 z z fun w b=>?_))
 obtain ⟨V,F,c⟩:=bn c
 refine wec call20 [F6 B.At,F6 a1] z z (kca (et b.to0 F) fun W b=>?_)
 replace b:=b.of0
 refine w0n b (sb 7 z z (bs c ?_ ?_))
 {
 intro i c
 refine sgz j 8 z i z (sgz (I6 _) 9 z i z (sg _ 10 z i (fun w b=>az z z underlying124 sizeOf139 (au k) p q) (sg _ 11 z i (fun w b=>aR z underlying139 z sizeOf26 z) ?_)))
 obtain ⟨X,G,s⟩:=Rd.jV k x
 obtain ⟨Y,rfl,Z,-⟩:=G
 refine sg _ 12 z i (fun w b=>ao z isAgg26 ((s lr b) 1 _ z)) (sgz (U6 _) 13 z i z (sgz (.bool _) 14 z i z (sh (.bool _) 15 z (fun w b=>aM i z z) (sb 16 z z (bs c ?_ ?_)))))
 {
 intro h c
 refine sgz (I6 _) 17 z h z (sgz (.bool _) 18 z h z (sgz (.bool _) 19 z h z (bs c ?_ ?_)))
 {
 intro f c
 refine so 20 z f (so 21 z f (so 22 z f (so 23 z f (so 24 z f (so 25 z f (so 26 z f (so 27 z f (so 28 z f (so 29 z f (so 30 z f (sg (.bool _) 31 z h (fun w b=>aM f z z) (sgz (.bool _) 32 z h z (sq 33 z (sq 34 z (sq 35 z (sq 36 z (sq 37 z (sq 38 z (sq 39 z (sq 40 z (sq 41 z (sq 42 z (sq 43 z (sq 44 z (su 45 z (su 46 z (su 47 z (su 48 z (su 49 z (su 50 z (su 51 z (su 52 z (su 53 z (su 54 z (su 55 z (sq 56 z (sg (.bool _) 57 z h (fun w b=>aM z z z) (sh (.bool _) 58 z (fun w b=>aM h z z) (bi ?_)))))))))))))))))))))))))))))))))))))))
 intro w b
 refine tn (dq z (wrl (mi z (mi z (dk (bB (tn (wrl (mi z (mi z (mi z (nt ?_))))))))))))
 cases c
 exact ⟨_,nls,o,_,m,fy z,b.bQ⟩
}
 {
 intro f c
 refine sgz j 20 z f z (sgz (I6 _) 21 z f z ?_)
 obtain ⟨b0,H,c⟩:=bn c
 obtain ⟨t,u,J⟩:=aK H
 refine sg _ 22 z f (fun w b=>az z z underlying124 sizeOf139 (au k) t u) (sg _ 23 z f (fun w b=>aR z underlying139 z sizeOf26 z) ?_)
 obtain ⟨b1,K,v⟩:=Rd.jV k J
 obtain ⟨b2,rfl,b3,-⟩:=K
 refine sg _ 24 z f (fun w b=>ao z isAgg26 ((v lr b) 1 _ z)) (sgz j 25 z f z (sgz (I6 _) 26 z f z (sg _ 27 z f (fun w b=>az z z underlying124 sizeOf139 (au k) p q) (sg _ 28 z f (fun w b=>aR z underlying139 z sizeOf26 z) (sg _ 29 z f (fun w b=>ao z isAgg26 ((s lr b) 1 _ z)) (sgz (.bool _) 30 z f z (sg (.bool _) 31 z h (fun w b=>aE f z z) (sgz (.bool _) 32 z h z (bs c ?_ ?_)))))))))
 {
 intro d c
 refine so 33 z d (so 34 z d (so 35 z d (so 36 z d (so 37 z d (so 38 z d (so 39 z d (so 40 z d (so 41 z d (so 42 z d (so 43 z d (so 44 z d (su 45 z (su 46 z (su 47 z (su 48 z (su 49 z (su 50 z (su 51 z (su 52 z (su 53 z (su 54 z (su 55 z (so 56 z d (sg (.bool _) 57 z h (fun w b=>aM d z z) (sh (.bool _) 58 z (fun w b=>aM h z z) (bi ?_))))))))))))))))))))))))))
 intro w b
 refine tn (dq z (wrl (mi z (mi z (dk (bB (tn (wrl (mi z (mi z (mi z (nt ?_))))))))))))
 cases c
 exact ⟨_,nls,o,_,m,fy z,b.bQ⟩
}
 {
 intro d c
 refine sgz j 33 z d z (sgz (I6 _) 34 z d z (sg _ 35 z d (fun w b=>az z z underlying124 sizeOf139 (au k) t u) (sg _ 36 z d (fun w b=>aR z underlying139 z sizeOf26 z) (sg _ 37 z d (fun w b=>ao z isAgg26 ((v lr b) 1 _ z)) (sgz j 38 z d z (sgz (I6 _) 39 z d z (sg _ 40 z d (fun w b=>az z z underlying124 sizeOf139 (au k) p q) (sg _ 41 z d (fun w b=>aR z underlying139 z sizeOf26 z) (sg _ 42 z d (fun w b=>ao z isAgg26 ((s lr b) 1 _ z)) (sgz (.bool _) 43 z d z (sgz (.bool _) 44 z d z (bs c ?_ ?_))))))))))))
 {
 intro g c
 refine sgz j 45 z g z (sgz (I6 _) 46 z g z (sg _ 47 z g (fun w b=>az z z underlying124 sizeOf139 (au k) t u) (sg _ 48 z g (fun w b=>aR z underlying139 z sizeOf26 z) (sg _ 49 z g (fun w b=>ao z isAgg26 ((v lr b) 2 _ z)) (sgz j 50 z g z (sgz (I6 _) 51 z g z (sg _ 52 z g (fun w b=>az z z underlying124 sizeOf139 (au k) p q) (sg _ 53 z g (fun w b=>aR z underlying139 z sizeOf26 z) (sg _ 54 z g (fun w b=>ao z isAgg26 ((s lr b) 2 _ z)) (sgz (.bool _) 55 z g z (sg (.bool _) 56 z d (fun w b=>aM g z z) (sg (.bool _) 57 z h (fun w b=>aE d z z) (sh (.bool _) 58 z (fun w b=>aM h z z) (bi ?_))))))))))))))
 intro w b
 refine tn (bw c z ?_ ?_)
 {
 intro L c
 refine wrl (mi z (mi z (dk (bB (tn (wrl (mi z (mi z (mi z (nt ?_))))))))))
 cases c
 exact ⟨_,nls,o,_,m,fy z,b.bQ⟩
}
 {
 intro L c
 refine wp_skip (bB (tn (wrl (mi z (mi z (mi z (nt ?_)))))))
 cases c
 exact ⟨_,nls,l,_,m,fy z,b.bQ⟩
}
}
 {
 intro g c
 refine so 45 z g (so 46 z g (so 47 z g (so 48 z g (so 49 z g (so 50 z g (so 51 z g (so 52 z g (so 53 z g (so 54 z g (so 55 z g (sg (.bool _) 56 z d (fun w b=>aE g z z) (sg (.bool _) 57 z h (fun w b=>aE d z z) (sh (.bool _) 58 z (fun w b=>aM h z z) (bi ?_))))))))))))))
 intro w b
 refine tn (bT z (wp_skip (bB (tn (wrl (mi z (mi z (mi z (nt ?_)))))))))
 cases c
 exact ⟨_,nls,l,_,m,fy z,b.bQ⟩
}
}
}
}
 {
 intro h c
 refine so 17 z h (so 18 z h (so 19 z h (su 20 z (su 21 z (su 22 z (su 23 z (su 24 z (su 25 z (su 26 z (su 27 z (su 28 z (su 29 z (su 30 z (so 31 z h (so 32 z h (su 33 z (su 34 z (su 35 z (su 36 z (su 37 z (su 38 z (su 39 z (su 40 z (su 41 z (su 42 z (su 43 z (su 44 z (su 45 z (su 46 z (su 47 z (su 48 z (su 49 z (su 50 z (su 51 z (su 52 z (su 53 z (su 54 z (su 55 z (su 56 z (so 57 z h (sh (.bool _) 58 z (fun w b=>aE h z z) (bi ?_))))))))))))))))))))))))))))))))))))))))))
 intro w b
 refine tn (bT z (wp_skip (bB (tn (wrl (mi z (mi z (mi z (nt ?_)))))))))
 cases c
 exact ⟨_,nls,l,_,m,fy z,b.bQ⟩
}
}
 {
 intro i c
 refine so 8 z i (so 9 z i (so 10 z i (so 11 z i (so 12 z i (so 13 z i (so 14 z i (sh (.bool _) 15 z (fun w b=>aE i z z) (sb 16 z z (sq 17 z (sq 18 z (sq 19 z (su 20 z (su 21 z (su 22 z (su 23 z (su 24 z (su 25 z (su 26 z (su 27 z (su 28 z (su 29 z (su 30 z (sq 31 z (sq 32 z (su 33 z (su 34 z (su 35 z (su 36 z (su 37 z (su 38 z (su 39 z (su 40 z (su 41 z (su 42 z (su 43 z (su 44 z (su 45 z (su 46 z (su 47 z (su 48 z (su 49 z (su 50 z (su 51 z (su 52 z (su 53 z (su 54 z (su 55 z (su 56 z (sq 57 z (sh (.bool _) 58 z (fun w b=>aE z z z) (bi ?_)))))))))))))))))))))))))))))))))))))))))))))))))))
 intro w b
 refine tn (bT z (wp_skip (bB (tn (wrl (mi z (mi z (mi z (nt ?_)))))))))
 cases c
 exact ⟨_,nls,l,_,m,fy z,b.bQ⟩
}
}
 {
 intro A c
 refine wp_exit (aQ (aQ ?_))
 replace c:=bg c m
 refine cZ (tn (ww (mi z (mi z (nt (wp_ret ?_))))))
 obtain rfl:=sj c
 exact aU [I6 l] results149 (rc z ah) ⟨z,b.bQ⟩
}
}
theorem iM {a0:(List aB)} {d:Value} {a1:Nat} {a2:Int} (f:Ro cS I d a0) (a:St w0 w I [] R) {r:(cp)} (b:iU a0 a1 a2=some r) :
  Calls prog 80 #[d,F6 a1,U6 a2] w fun e w'=>∃ (I':HL) (j:Value),e = .returned (.agg #[.bool r.Has,j])∧I.le I'∧Ro (cg .u8) I' j r.Val∧St w0 w' I' [] R:=by {
 unfold iU at b
 refine c0 func80 z ntmps80 ?_
 have h:=HL.le.refl I
 refine ww ?_
 obtain ⟨y,A,n,o,a⟩:=a.box [.bool false,Zs] 61
 refine wa n o (nt (ww (mv (d) z (mv (F6 _) z (mi z ?_)))))
 obtain ⟨B,p,b⟩:=bn b
 refine wc call149 [d,F6 a1,U6 a2] z z z (kca (vE (f.mono cz) a.to0 p) fun C a=>?_)
 replace a:=a.of0
 refine mi z (nt (wp_seq (ww (mi z (mb z (mb z (bs b ?_ ?_)))))))
 {
 intro c b
 refine go c (go c (go c (go c (go c (mb (aM c z z) (nt (dq z (ww (mk (.agg #[.bool false,Zs]) (bxk a z sizeOf61 (oC z (oC z oN)) fun D a=>nt (wp_ret (aI ?_))))))))))))
 have q:Ro (cg .u8) I (.slice none 0 0) []:=cv
 cases b
 exact aU [.agg #[.bool false,Zs]] results80 (bj (bF (cs:=[.bool false,Zs]) z isAgg61 sizeOf61 (a.eD 0 z)) ah) ⟨_,Zs,z,h,q,a.bQ⟩
}
 {
 intro c b
 refine gv (d) c z (gi c z ?_)
 obtain ⟨E,s,b⟩:=bn b
 obtain ⟨k,l,t⟩:=aK s
 refine gg c (az z z underlying124 sizeOf139 (ag f) k l) (gg c (aR z underlying139 z sizeOf4 z) ?_)
 obtain ⟨F,u,m⟩:=Ro.jV f t
 obtain ⟨g,rfl,i,-⟩:=u
 refine gg c (ao z isAgg4 ((m lr a) 3 _ z)) (mb (aE c z z) (nt (bw b z ?_ ?_)))
 {
 intro v b
 refine ww (mk (.agg #[.bool false,Zs]) (bxk a z sizeOf61 (oC z (oC z oN)) fun G a=>nt (wp_ret (aI ?_))))
 have x:Ro (cg .u8) I (.slice none 0 0) []:=cv
 cases b
 exact aU [.agg #[.bool false,Zs]] results80 (bj (bF (cs:=[.bool false,Zs]) z isAgg61 sizeOf61 (a.eD 0 z)) ah) ⟨_,Zs,z,h,x,a.bQ⟩
}
 {
 intro v b
 refine wp_skip (tn (ww (mv (d) z (mi z (mz (az z z underlying124 sizeOf139 (ag f) k l) (mz (aR z underlying139 z sizeOf22 z) (ml z isAgg22 ((m lr a) 4 _ z) (wv (.agg #[.bool true,g]) z z (by obtain ⟨_,_,hv_,_⟩:=(ag i); rw [hv_]; kernel_rfl) (bxk a z sizeOf61 (oC z (oC (oS (ag i)) oN)) fun H a=>nt (wp_ret ?_))))))))))
 cases b
 exact aU [.agg #[.bool true,g]] results80 (bj (bF (cs:=[.bool true,g]) z isAgg61 sizeOf61 (a.eD 0 z)) ah) ⟨_,g,z,h,i,a.bQ⟩
}
}
}
theorem wk {a0:(List aB)} {k:Value} (i:Rd cS R I k a0) (b:St w0 w I [] R) {r:((List Nat))} (c:qA a0=some r) :
  Calls prog 152 #[k] w fun e w'=>∃ (I':HL) (G:Value),e = .returned (G)∧I.le I'∧St w0 w' I' [aZ bV G r] R:=by {
 unfold qA at c
 refine c0 func152 z ntmps152 ?_
 have t:=HL.le.refl I
 refine ww (mv ((.slice none 0 0)) z (nt (ww (mv ((.slice none 0 0)) z (nt (wp_seq (ww (mi z (nt (wp_block ?_))))))))))
 replace b:=b.aX bV
 obtain ⟨b2,c⟩:=aS c
 refine bf (fun n a w=>∃ (I1565:HL) (h:(List Nat)) (m:Int) (d:Value),cP (mg a0) n (h,m)=some r∧fz 66 [0,3,4] [k,d,I6 m] a∧I.le I1565∧St w0 w I1565 [aZ bV d h] R) b2 ⟨_,[],0,Zs,c,fy z,lr,b⟩ ?_
 rintro i4 _ i5 ⟨I1565,h,m,d,c,⟨i6,rfl⟩,l,b⟩
 obtain ⟨i7,b3,rfl,c,p⟩:=aV c
 dsimp only [mg] at c
 replace i:=i.mono (nj l)
 replace t:=t.trans l
 refine wp_seq (ww (mi z (mv (k) z (mz (bW z underlying124 (au i)) (mb z (nt (bw c z ?_ ?_)))))))
 {
 intro b4 c
 refine wp_skip (tn (wp_seq (wp_block (ww (mi z (nt ?_))))))
 obtain ⟨b5,c,H⟩:=bn c
 refine cQ (fun a w=>∃ (j:Int),(kA h a0 m) j=some b3∧fz 66 [0,3,4,5] [k,d,I6 m,I6 j] a∧St w0 w I1565 [aZ bV d h] R) ?_ ?_
 {
 refine wp_block ?_
 obtain ⟨b6,c⟩:=aS c
 refine bf (fun n a w=>∃ (o:Int),cP (kz h a0 m) n o=some b5∧fz 66 [0,3,4,5] [k,d,I6 m,I6 o] a∧St w0 w I1565 [aZ bV d h] R) b6 ⟨0,c,fy z,b⟩ ?_
 rintro i8 _ i9 ⟨o,c,⟨j0,rfl⟩,b⟩
 obtain ⟨j1,j2,rfl,c,u⟩:=aV c
 dsimp only [kz] at c
 refine wp_seq (wp_seq (rg b 16 [0,0,2,7,15,31,31,127,255,31,31,1567,3615,7711,16383,32767] [] mixed (si 0 z z (sz (d) 1 z z (sh _ 2 z (fun w b=>bW z underlying43 b.sv0) (sb 3 z z (sb 4 z z (bs c ?_ ?_))))))))
 {
 intro f c
 refine sgz d 5 z f z (sgz (I6 _) 6 z f z ?_)
 obtain ⟨b7,b8,c⟩:=bn c
 obtain ⟨b9,c1,c2⟩:=aK b8
 refine sg _ 7 z f (fun w b=>az z z underlying43 sizeOf37 b.sv0 b9 c1) (sg _ 8 z f (fun w b=>ao z isAgg37 (b.ol0 c2 (by rintro _ rfl; rfl))) (sgz k 9 z f z (sgz (I6 _) 10 z f z ?_)))
 obtain ⟨c3,c4,c⟩:=bn c
 obtain ⟨c5,c6,c7⟩:=aK c4
 refine sg _ 11 z f (fun w b=>az z z underlying124 sizeOf139 (au i) c5 c6) (sg _ 12 z f (fun w b=>aR z underlying139 z sizeOf37 z) ?_)
 obtain ⟨j3,c8,c9⟩:=Rd.jV i c7
 obtain ⟨j4,rfl,j5,-⟩:=c8
 refine sg _ 13 z f (fun w b=>ao z isAgg37 ((c9 lr b) 0 _ z)) (ia 14 (by kernel_rfl) (nxe [15] (by kernel_rfl) z ((ar z z z (cvb f)).trans z) ?_))
 clear b
 intro w b
 obtain ⟨j6,d0,c⟩:=bn c
 refine wec call59 [F6 b7,F6 c3.At] z z (kca (kN b.to0 d0) fun j7 b=>?_)
 replace b:=b.of0
 refine w0n b (sh (.bool _) 15 z (fun w b=>aM f z z) (bi ?_))
 intro w b
 refine tn (bw c z ?_ ?_)
 {
 intro d1 c
 refine wp_skip (tn (wp_block (wrl (mi z (mi z (mi z (dk (bB (tn ?_)))))))))
 cases c
 exact ⟨_,nls,_,u,fy z,b.bo⟩
}
 {
 intro d1 c
 refine wp_exit (aQ (aQ ?_))
 replace c:=bg c u
 refine cZ (tn ?_)
 obtain rfl:=sj c
 exact ⟨o,H,fy z,b.bo⟩
}
}
 {
 intro f c
 refine so 5 z f (so 6 z f (so 7 z f (so 8 z f (so 9 z f (so 10 z f (so 11 z f (so 12 z f (so 13 z f (so 14 z f (sh (.bool _) 15 z (fun w b=>aE f z z) (bi ?_)))))))))))
 intro w b
 refine tn (bT z (wp_exit (aQ (aQ ?_))))
 replace c:=bg c u
 refine cZ (tn ?_)
 obtain rfl:=sj c
 exact ⟨o,H,fy z,b.bo⟩
}
}
 {
 rintro _ j8 ⟨j,c,⟨j9,rfl⟩,b⟩
 dsimp only [kA] at c
 refine wp_seq (wp_seq (rg b 16 [0,0,2,7,15,31,31,127,255,31,31,1567,3615,7711,16383,32767] [] mixed (si 0 z z (sz (d) 1 z z (sh _ 2 z (fun w b=>bW z underlying43 b.sv0) (sb 3 z z (sb 4 z z (bs c ?_ ?_))))))))
 {
 intro g c
 refine sgz d 5 z g z (sgz (I6 _) 6 z g z ?_)
 obtain ⟨d2,d3,c⟩:=bn c
 obtain ⟨d4,d5,d6⟩:=aK d3
 refine sg _ 7 z g (fun w b=>az z z underlying43 sizeOf37 b.sv0 d4 d5) (sg _ 8 z g (fun w b=>ao z isAgg37 (b.ol0 d6 (by rintro _ rfl; rfl))) (sgz k 9 z g z (sgz (I6 _) 10 z g z ?_)))
 obtain ⟨x,d7,c⟩:=bn c
 obtain ⟨J,K,L⟩:=aK d7
 refine sg _ 11 z g (fun w b=>az z z underlying124 sizeOf139 (au i) J K) (sg _ 12 z g (fun w b=>aR z underlying139 z sizeOf37 z) ?_)
 obtain ⟨k0,d8,d9⟩:=Rd.jV i L
 obtain ⟨k1,rfl,k2,-⟩:=d8
 refine sg _ 13 z g (fun w b=>ao z isAgg37 ((d9 lr b) 0 _ z)) (ia 14 (by kernel_rfl) (nxe [15] (by kernel_rfl) z ((ar z z z (cvb g)).trans z) ?_))
 clear b
 intro w b
 obtain ⟨k3,e0,c⟩:=bn c
 refine wec call20 [F6 d2,F6 x.At] z z (kca (et b.to0 e0) fun k4 b=>?_)
 replace b:=b.of0
 refine w0n b (sh (.bool _) 15 z (fun w b=>aM g z z) (bi ?_))
 intro w b
 refine tn (bw c z ?_ ?_)
 {
 intro e1 c
 refine wp_exit (aQ (cZ (tn (wrl (mi z (mi z (mi z (nt ?_))))))))
 cases c
 exact ⟨_,nls,_,h,_,d,p,fy z,l,b.bo⟩
}
 {
 intro e1 c
 refine wp_skip (tn (ww (mv ((.slice none 0 0)) z (nt (ww (mv ((.slice none 0 0)) z (mv (d) z (mi z ?_))))))))
 obtain ⟨I1684,M,q,b⟩:=b.cK
 replace i:=i.mono (nj M)
 replace l:=l.trans M
 obtain ⟨e2,c⟩:=cw c
 obtain ⟨N,O,P⟩:=sL e2
 have e3:Ro bV I1684 (dh 1 d (0:Int).toNat j.toNat) (nc h 0 j):=Ro.part q O P N
 refine mv ((dh 1 d (0:Int).toNat j.toNat)) (cA underlying43 sizeOf37 z (ag q) N O P .i64 .i64 (.inr ⟨z,z⟩) (.inl z)) ?_
 replace b:=b.aX bV
 obtain ⟨e4,c⟩:=cw c
 obtain ⟨y,e5,e6,b⟩:=bE pe underlying43 b (Src.xk b e3) (cF e4 z) 43
 replace b:=St.zU b
 refine bY (v:=y) (w':=e5) z z (bU z z e6) (mv (y) z (nt (ww (mv (y) z (mv (k) z (mi z (mz (az z z underlying124 sizeOf139 (au i) J K) (mz (aR z underlying139 z sizeOf37 z) ?_))))))))
 obtain ⟨k5,e7,e8⟩:=Rd.jV i L
 obtain ⟨k6,rfl,k7,-⟩:=e7
 refine ml z isAgg37 ((e8 lr b) 0 _ z) ?_
 obtain ⟨e9,f0,f1,f2,b⟩:=b.er (E:=bV) (xs:=[x.At]) [[F6 x.At]] 37 1 z (bz.cons z bz.nil)
 refine bY (v:=(.slice (some ⟨e9,0,none⟩) 1 1)) (w':=f0) z z (di (by kernel_rfl) f1 f2) ?_
 obtain ⟨f3,c⟩:=cw c
 replace b:=b.ab
 obtain ⟨A,f4,f5,b⟩:=bE pe underlying43 b b.jr (cF f3 z) 43
 refine bY (v:=A) (w':=f4) z z (bU z z f5) (mv (A) z (nt (wrl (mv (A) z (mv (d) z (mi z ?_))))))
 obtain ⟨f6,c⟩:=cw c
 obtain ⟨Q,S,T⟩:=sL f6
 have f7:Ro bV I1684 (dh 1 d j.toNat (((h).length:Nat):Int).toNat) (nc h j (((h).length:Nat):Int)):=Ro.part q S T Q
 refine mv ((dh 1 d j.toNat (((h).length:Nat):Int).toNat)) (cA underlying43 sizeOf37 z (ag q) Q S T .i64 .i64 (.inl z) (.inr ⟨z,z⟩)) ?_
 obtain ⟨f8,c⟩:=cw c
 obtain ⟨B,f9,g0,b⟩:=bE pe underlying43 b (Src.xk b f7) (cF f8 z) 43
 refine bY (v:=B) (w':=f9) z z (bU z z g0) (mv (B) z (dk (bB (tn (wrl (mi z (mi z (mi z (nt ?_)))))))))
 cases c
 exact ⟨_,nls,_,_,_,B,p,fy z,l,b.bo⟩
}
}
 {
 intro g c
 refine so 5 z g (so 6 z g (so 7 z g (so 8 z g (so 9 z g (so 10 z g (so 11 z g (so 12 z g (so 13 z g (so 14 z g (sh (.bool _) 15 z (fun w b=>aE g z z) (bi ?_)))))))))))
 intro w b
 refine tn (bT z (wp_skip (tn (ww (mv ((.slice none 0 0)) z (nt (ww (mv ((.slice none 0 0)) z (mv (d) z (mi z ?_))))))))))
 obtain ⟨I1726,U,s,b⟩:=b.cK
 replace i:=i.mono (nj U)
 replace l:=l.trans U
 obtain ⟨g1,c⟩:=cw c
 obtain ⟨V,W,X⟩:=sL g1
 have g2:Ro bV I1726 (dh 1 d (0:Int).toNat j.toNat) (nc h 0 j):=Ro.part s W X V
 refine mv ((dh 1 d (0:Int).toNat j.toNat)) (cA underlying43 sizeOf37 z (ag s) V W X .i64 .i64 (.inr ⟨z,z⟩) (.inl z)) ?_
 replace b:=b.aX bV
 obtain ⟨g3,c⟩:=cw c
 obtain ⟨C,g4,g5,b⟩:=bE pe underlying43 b (Src.xk b g2) (cF g3 z) 43
 replace b:=St.zU b
 refine bY (v:=C) (w':=g4) z z (bU z z g5) (mv (C) z (nt (ww (mv (C) z (mv (k) z (mi z ?_))))))
 obtain ⟨Y,g6,c⟩:=bn c
 obtain ⟨g7,g8,g9⟩:=aK g6
 refine mz (az z z underlying124 sizeOf139 (au i) g7 g8) (mz (aR z underlying139 z sizeOf37 z) ?_)
 obtain ⟨k8,h0,h1⟩:=Rd.jV i g9
 obtain ⟨k9,rfl,l0,-⟩:=h0
 refine ml z isAgg37 ((h1 lr b) 0 _ z) ?_
 obtain ⟨h2,h3,h4,h5,b⟩:=b.er (E:=bV) (xs:=[Y.At]) [[F6 Y.At]] 37 1 z (bz.cons z bz.nil)
 refine bY (v:=(.slice (some ⟨h2,0,none⟩) 1 1)) (w':=h3) z z (di (by kernel_rfl) h4 h5) ?_
 obtain ⟨h6,c⟩:=cw c
 replace b:=b.ab
 obtain ⟨D,h7,h8,b⟩:=bE pe underlying43 b b.jr (cF h6 z) 43
 refine bY (v:=D) (w':=h7) z z (bU z z h8) (mv (D) z (nt (wrl (mv (D) z (mv (d) z (mi z ?_))))))
 obtain ⟨h9,c⟩:=cw c
 obtain ⟨Z,b0,b1⟩:=sL h9
 have i0:Ro bV I1726 (dh 1 d j.toNat (((h).length:Nat):Int).toNat) (nc h j (((h).length:Nat):Int)):=Ro.part s b0 b1 Z
 refine mv ((dh 1 d j.toNat (((h).length:Nat):Int).toNat)) (cA underlying43 sizeOf37 z (ag s) Z b0 b1 .i64 .i64 (.inl z) (.inr ⟨z,z⟩)) ?_
 obtain ⟨i1,c⟩:=cw c
 obtain ⟨F,i2,i3,b⟩:=bE pe underlying43 b (Src.xk b i0) (cF i1 z) 43
 refine bY (v:=F) (w':=i2) z z (bU z z i3) (mv (F) z (dk (bB (tn (wrl (mi z (mi z (mi z (nt ?_)))))))))
 cases c
 exact ⟨_,nls,_,_,_,F,p,fy z,l,b.bo⟩
}
}
}
 {
 intro b4 c
 refine wp_exit (aQ (aQ ?_))
 replace c:=bg c p
 refine cZ (tn (ww (mv (d) z (mv (d) z (nt (wp_ret ?_))))))
 cases c
 exact aU [d] results152 (rc z ah) ⟨_,d,z,t,b.bo⟩
}
}
theorem vv {a0:(List aB)} {i:Value} {a1 a2:Nat} {a3 a4:Int} (l:Ro cS I i a0) (b:St w0 w I [] R) {r:((List bM))} (c:lS a0 a1 a2 a3 a4=some r) :
  Calls prog 81 #[i,F6 a1,F6 a2,U6 a3,I6 a4] w fun e w'=>∃ (I':HL) (B:Value),e = .returned (B)∧I.le I'∧St w0 w' I' [aZ aw B r] R:=by {
 unfold lS at c
 refine c0 func81 z ntmps81 ?_
 have m:=HL.le.refl I
 refine ww (mv ((.slice none 0 0)) z (nt (ww (mv ((.slice none 0 0)) z (nt (ww (mv (i) z ?_)))))))
 obtain ⟨C,G,c⟩:=bn c
 refine wc call152 [i] z z z ((wk (l.mono cz) b.to0 G).mono ?_)
 rintro _ b0 ⟨I618,h,rfl,D,b⟩
 refine ⟨_,z,?_⟩
 replace b:=b.of1
 replace l:=l.mono (ro_le D)
 replace m:=m.trans D
 refine mv (h) z (nt (wp_seq (ww (mi z (nt (wp_block ?_))))))
 replace b:=b.aX aw
 obtain ⟨H,c⟩:=aS c
 refine bf (fun n a w=>∃ (I756:HL) (o:(List bM)) (p:Int) (f:Value),cP (lf C a4 a0 a3 a1 a2) n (o,p)=some r∧fz 58 [0,1,2,3,4,11,12,13] [i,F6 a1,F6 a2,U6 a3,I6 a4,f,h,I6 p] a∧I618.le I756∧St w0 w I756 [aZ aw f o,aZ bV h C] R) H ⟨_,[],0,Zs,c,fy z,lr,b⟩ ?_
 rintro b1 _ b2 ⟨I756,o,p,f,c,⟨b3,rfl⟩,j,b⟩
 obtain ⟨b4,b5,rfl,c,q⟩:=aV c
 dsimp only [lf] at c
 replace l:=l.mono (ro_le j)
 replace m:=m.trans j
 refine wp_seq (ww (mi z (mv (h) z (mz (bW z underlying43 b.sv1) (mb z (mb z (bs c ?_ ?_)))))))
 {
 intro g c
 refine gv (f) g z (gg g (bW z underlying81 b.sv0) (gi g z (gb g z (mb (aM g z z) (nt (bw c z ?_ ?_))))))
 {
 intro J c
 refine wp_skip (tn (wp_seq (wp_block (ww (mv (i) z (mv (h) z (mi z ?_)))))))
 obtain ⟨k,K,c⟩:=bn c
 obtain ⟨t,u,x⟩:=aK K
 refine mz (az z z underlying43 sizeOf37 b.sv1 t u) (ml z isAgg37 (b.ol1 x (by rintro _ rfl; rfl)) (mi z ?_))
 obtain ⟨F,L,c⟩:=bn c
 refine wc call80 [i,F6 k,U6 a3] z z z ((iM l b.to0 L).mono ?_)
 rintro _ b6 ⟨I775,y,rfl,M,s,b⟩
 refine ⟨_,z,?_⟩
 replace b:=b.of0
 replace j:=j.trans M
 obtain ⟨N,b7,O,P,b⟩:=b.box [.bool false,Zs] 61
 refine wa O P (bxk b z sizeOf61 (oC z (oC (oS (ag s)) oN)) fun b8 b=>nt (ww (mf z underlying61 z sizeOf4 (ml z isAgg4 (b.bc0 z) (mb z (bs c ?_ ?_))))))
 {
 intro d c
 refine gv (h) d z (gi d z (gg d (az z z underlying43 sizeOf37 b.sv2 t u) (gg d (ao z isAgg37 (b.ol2 x (by rintro _ rfl; rfl))) (gv (F6 _) d z (gv (F6 _) d z ?_)))))
 obtain ⟨b9,Q,c⟩:=bn c
 refine de ((ar z z z (cvb d)).trans z) z (js call153 z (vs:=[F6 k,F6 a1,F6 a2]) z) (kca (qu b.to0 Q) fun c1 b=>?_)
 replace b:=b.of0
 refine mb (aM d z z) (nt (bw c z ?_ ?_))
 {
 intro S c
 refine rg b 11 [0,0,0,6,14,0,32,126,254,511,1023] [10] mixed (wsr (f) 0 rfl rfl rfl (by kernel_rfl) (fun w b=>rfl) (wsr (h) 1 rfl rfl rfl (by kernel_rfl) (fun w b=>rfl) (wsr (.int .i64 p) 2 rfl rfl rfl (by kernel_rfl) (fun w b=>rfl) (wsr (.pointer (some (dN h (p.toNat*1+0)))) 3 rfl rfl rfl (by kernel_rfl) (fun w b=>az rfl rfl underlying43 sizeOf37 b.sv2 t u) (wsr (.float .f64 k) 4 rfl rfl rfl (by kernel_rfl) (fun w b=>ao rfl isAgg37 (b.ol2 x (by rintro _ rfl; rfl))) (wsr (Pt N 1) 5 rfl rfl rfl (by kernel_rfl) (fun w b=>aO rfl underlying61 rfl sizeOf22 rfl) (wsr (y) 6 rfl rfl rfl (by kernel_rfl) (fun w b=>ao rfl isAgg22 (b.bc0 rfl)) (wsr (.agg #[F6 k,y]) 7 rfl rfl rfl (by kernel_rfl) (fun w b=>by obtain ⟨_,_,hv_,_⟩:=(ag s); rw [hv_]; kernel_rfl) (e1 8 z z fun w b=>?_)))))))))
 obtain ⟨T,U,V,W,b⟩:=b.er (E:=aw) (xs:=[({At:=k,Val:=F.Val}:bM)]) [[F6 k,y]] 152 1 z (bz.cons ⟨_,z,s,oS (ag s)⟩ bz.nil)
 refine bS (v:=(.slice (some ⟨T,0,none⟩) 1 1)) (w':=U) z (di (by kernel_rfl) V W) (wn [0] b (pz bu) (e1 9 z z fun w b=>?_))
 obtain ⟨X,c⟩:=cw c
 replace b:=b.ay
 obtain ⟨A,Y,Z,b⟩:=bE ya underlying81 b b.jr (cF X z) 81
 refine bS (v:=A) (w':=Y) z (bU z z Z) (w0n b (e1 10 z z fun w b=>bS (v:=A) (w':=w) z z (w0n b (bi ?_))))
 intro w b
 refine bB (tn (wrl (mi z (mi z (mi z (nt ?_))))))
 cases c
 exact ⟨_,nls,_,(o++([({At:=k,Val:=F.Val}:bM)])),_,A,q,fy z,j,b.ap.ab.cd⟩
}
 {
 intro S c
 refine wp_skip (bB (tn (wrl (mi z (mi z (mi z (nt ?_)))))))
 cases c
 exact ⟨_,nls,_,o,_,f,q,fy z,j,b.ay.ay.cd⟩
}
}
 {
 intro d c
 refine go d (go d (go d (go d (go d (go d (go d (mb (aE d z z) (nt (bT z (wp_skip (bB (tn (wrl (mi z (mi z (mi z (nt ?_)))))))))))))))))
 cases c
 exact ⟨_,nls,_,o,_,f,q,fy z,j,b.ay.ay.cd⟩
}
}
 {
 intro J c
 refine wp_exit (aQ (aQ ?_))
 replace c:=bg c q
 refine cZ (tn (ww (mv (f) z (mv (f) z (nt (wp_ret ?_))))))
 cases c
 exact aU [f] results81 (rc z ah) ⟨_,f,z,m,b.bo⟩
}
}
 {
 intro g c
 refine go g (go g (go g (go g (mb (aE g z z) (nt (bT z (wp_exit (aQ (aQ ?_)))))))))
 replace c:=bg c q
 refine cZ (tn (ww (mv (f) z (mv (f) z (nt (wp_ret ?_))))))
 cases c
 exact aU [f] results81 (rc z ah) ⟨_,f,z,m,b.bo⟩
}
}
theorem rS {a0:ai} {p0:Value} {a1:al} {j k l m:Value} (t:Rd bV R I j a1.Gets) (d:Rd gn R I k a1.Scans) (g2:Rd bV R I l a1.Puts) (g3:Rd (cg .u8) R I m a1.Data) (b:St w0 w I [aL p0 a0] R) {r:(bp)} (c:iP a0 a1=some r) :
  Calls prog 34 #[p0,.agg #[U6 a1.ID.Session,U6 a1.ID.Seq,U6 a1.Epoch,j,k,l,m]] w fun e w'=>∃ (I':HL) (X:Value) (Y:Value),e = .returned (.agg #[I6 r.E,U6 r.Epoch,U6 r.Index,X,Y])∧I.le I'∧St w0 w' I' [aZ aA X r.Gots,aZ (dG aw) Y r.Scans,aL p0 a0] R:=by {
 unfold iP at c
 refine c0 func34 z ntmps34 ?_
 have u:=HL.le.refl I
 refine ww ?_
 obtain ⟨o,g4,b8,b9,b⟩:=b.box [U6 a1.ID.Session,U6 a1.ID.Seq,U6 a1.Epoch,j,k,l,m] 46
 refine wa b8 b9 ?_
 obtain ⟨p,g5,c1,c2,b⟩:=b.box [Zi,Zu,Zu,Zs,Zs] 33
 refine wa c1 c2 (nt (ww (mk (.agg #[Zi,Zu,Zu,Zs,Zs]) ?_)))
 obtain ⟨q,g6,c3,c4,b⟩:=b.box [Zi,Zu,Zu,Zs,Zs] 33
 refine wa c3 c4 (bxk b z sizeOf33 (oJ 5 z oN) fun g7 b=>nt ?_)
 obtain ⟨c5,c,c6⟩:=bn c
 refine cQ (fun a w=>∃ (I859:HL) (x:(List cp)) (f:Value),(jX a1 a0) x=some r∧fz 61 [0,3,4,5] [p0,Pt o 0,Pt p 0,Pt q 0] a∧I.le I859∧St w0 w I859 [aL p0 a0,cells o [U6 a1.ID.Session,U6 a1.ID.Seq,U6 a1.Epoch,j,k,l,m],cells p [Zi,Zu,Zu,Zs,Zs],cells q [Zi,Zu,Zu,f,Zs],aZ aA f x] R) ?_ ?_
 {
 have M:=HL.le.refl I
 refine ww (mi z (nt (wp_block ?_)))
 replace b:=b.aX aA
 obtain ⟨c7,c⟩:=aS c
 refine bf (fun n a w=>∃ (I801:HL) (y:(List cp)) (N:Int) (J:Value),cP (gj a1 a0) n (y,N)=some c5∧fz 61 [0,3,4,5,6] [p0,Pt o 0,Pt p 0,Pt q 0,I6 N] a∧I.le I801∧St w0 w I801 [aZ aA J y,cells q [Zi,Zu,Zu,J,Zs],cells p [Zi,Zu,Zu,Zs,Zs],cells o [U6 a1.ID.Session,U6 a1.ID.Seq,U6 a1.Epoch,j,k,l,m],aL p0 a0] R) c7 ⟨_,[],0,Zs,c,fy z,lr,b⟩ ?_
 rintro g8 _ g9 ⟨I801,y,N,J,c,⟨h0,rfl⟩,A,b⟩
 obtain ⟨h1,h2,rfl,c,Z⟩:=aV c
 dsimp only [gj] at c
 replace t:=t.mono (nj A)
 replace M:=M.trans A
 refine wp_seq (ww (mi z (mf z underlying46 z sizeOf43 (ml z isAgg43 (b.bc3 z) (mz (bW z underlying43 (au t)) (mb z (nt (bw c z ?_ ?_))))))))
 {
 intro c8 c
 refine wp_skip (tn (wp_seq (wp_block ?_)))
 obtain ⟨c9,d0,h3,h4,h5,h6,h7,h8,⟨rfl,K,O,P,Q⟩,d1⟩:=bd b.aY
 have b:=d1
 refine rg b 16 [0,1,0,4,12,28,0,64,0,448,960,2044,4092,8191,16383,32767] [] mixed (sf 0 z z underlying33 z sizeOf30 (sl 1 z z isAgg30 (fun w b=>b.bc5 z) (sp 2 z z (sp 3 z z (sf 4 z z underlying130 z sizeOf124 (sl 5 z z isAgg124 (fun w b=>b.bc0 z) (sf 6 z z underlying46 z sizeOf43 (sl 7 z z isAgg43 (fun w b=>b.bc7 z) (si 8 z z ?_)))))))))
 obtain ⟨d2,d3,c⟩:=bn c
 obtain ⟨d4,d5,d6⟩:=aK d3
 refine sh _ 9 z (fun w b=>az z z underlying43 sizeOf37 (au t) d4 d5) (sl 10 z z isAgg37 (fun w b=>dR t lr b d6 (by rintro _ rfl; rfl)) (e1 11 z z fun w b=>?_))
 obtain ⟨S,d7,c⟩:=bn c
 refine wec call80 [d0,F6 d2,U6 18446744073709551615] z z ((iM K b.to0 d7).mono ?_)
 rintro _ h9 ⟨I838,d8,rfl,B,b0,b⟩
 refine ⟨_,z,?_⟩
 replace b:=b.of0
 replace K:=K.mono (ro_le B)
 replace O:=O.mono (ro_le B)
 replace P:=P.mono (ro_le B)
 replace Q:=Q.mono (ro_le B)
 replace A:=A.trans B
 refine wn [1,0] b (pkr z z (fun w b=>ao z isAgg30 (b.bc5 z)) (pf z z underlying33 z sizeOf30 bu)) (e1 12 z z fun w b=>?_)
 obtain ⟨d9,e0,e2,e3,b⟩:=b.er (E:=aA) (xs:=[S]) [[.bool S.Has,d8]] 61 1 z (bz.cons ⟨_,z,b0,oS (ag b0)⟩ bz.nil)
 refine bS (v:=(.slice (some ⟨d9,0,none⟩) 1 1)) (w':=e0) z (di (by kernel_rfl) e2 e3) (wn [1,0] b (pkr z z (fun w b=>ao z isAgg30 (b.bc6 z)) (pf z z underlying33 z sizeOf30 bu)) (e1 13 z z fun w b=>?_))
 obtain ⟨e4,c⟩:=cw c
 replace b:=b.aW
 obtain ⟨T,e5,e6,b⟩:=bE xM underlying30 b b.jr (cF e4 z) 30
 refine bS (v:=T) (w':=e5) z (bU z z e6) (w0n b (sf 14 z z underlying33 z sizeOf30 (e1 15 z z fun w b=>?_)))
 replace b:=b.cV
 refine b1e T b z (oS b.sv1) sizeOf30 fun i0 b=>w0n b (bi ?_)
 intro w b
 refine bB (tn (wrl (mi z (mi z (mi z (nt ?_))))))
 cases c
 exact ⟨_,nls,_,(y++([S])),_,T,Z,fy z,A,(aj (Pt c9 0) a0 b.cV.cV.cV.cV ⟨z,K,O,P,Q⟩).aW.aW.ap.aY.oT⟩
}
 {
 intro c8 c
 refine wp_exit (aQ (aQ ?_))
 replace c:=bg c Z
 refine cZ (tn ?_)
 obtain rfl:=sj c
 exact ⟨_,y,J,c6,fy z,M,b.ab.ay.ap.aY.oT⟩
}
}
 {
 rintro _ i1 ⟨I859,x,f,c,⟨i2,rfl⟩,b1,b⟩
 dsimp only [jX] at c
 replace d:=d.mono (nj b1)
 replace u:=u.trans b1
 refine wp_seq (ww (mi z (nt (wp_block ?_))))
 replace b:=b.aX (dG aw)
 obtain ⟨e7,c⟩:=aS c
 refine bf (fun n a w=>∃ (I1018:HL) (L:(List (List bM))) (U:Int) (g:Value),cP (fc a1 a0 x) n (L,U)=some r∧fz 61 [0,3,4,5,7] [p0,Pt o 0,Pt p 0,Pt q 0,I6 U] a∧I859.le I1018∧St w0 w I1018 [aZ (dG aw) g L,aL p0 a0,cells o [U6 a1.ID.Session,U6 a1.ID.Seq,U6 a1.Epoch,j,k,l,m],cells p [Zi,Zu,Zu,Zs,Zs],cells q [Zi,Zu,Zu,f,g],aZ aA f x] R) e7 ⟨_,[],0,Zs,c,fy z,lr,b⟩ ?_
 rintro i3 _ i4 ⟨I1018,L,U,g,c,⟨i5,rfl⟩,h,b⟩
 obtain ⟨i6,i7,rfl,c,b2⟩:=aV c
 dsimp only [fc] at c
 replace d:=d.mono (nj h)
 replace u:=u.trans h
 refine wp_seq (ww (mi z (mf z underlying46 z sizeOf44 (ml z isAgg44 (b.bc2 z) (mz (bW z underlying44 (au d)) (mb z (nt (bw c z ?_ ?_))))))))
 {
 intro e8 c
 refine wp_skip (tn (wp_seq (wp_block ?_)))
 obtain ⟨e9,f0,i8,i9,j0,j1,j2,j3,⟨rfl,s,C,D,F⟩,f1⟩:=bd b.ab
 have b:=f1
 refine rg b 23 [0,1,0,4,12,28,0,64,0,448,960,1984,0,4096,0,28672,61440,126976,262140,524284,1048575,2097151,4194303] [] mixed (sf 0 z z underlying33 z sizeOf31 (sl 1 z z isAgg31 (fun w b=>b.bc7 z) (sp 2 z z (sp 3 z z (sf 4 z z underlying130 z sizeOf124 (sl 5 z z isAgg124 (fun w b=>b.bc0 z) (sf 6 z z underlying46 z sizeOf44 (sl 7 z z isAgg44 (fun w b=>b.bc5 z) (si 8 z z ?_)))))))))
 obtain ⟨b3,f2,c⟩:=bn c
 obtain ⟨b4,b5,b6⟩:=aK f2
 refine sh _ 9 z (fun w b=>az z z underlying44 sizeOf80 (au d) b4 b5) (sh (.pointer (some _)) 10 z (fun w b=>iK (i:=0) z z underlying80 sizeOf37 (by decide) (by decide) z) (sl 11 z z isAgg37 (fun w b=>dR d lr b b6 (by rintro _ rfl; rfl)) (sf 12 z z underlying46 z sizeOf44 (sl 13 z z isAgg44 (fun w b=>b.bc5 z) (si 14 z z (sh _ 15 z (fun w b=>az z z underlying44 sizeOf80 (au d) b4 b5) (sh (.pointer (some _)) 16 z (fun w b=>iK (i:=1) z z underlying80 sizeOf37 (by decide) (by decide) z) (sl 17 z z isAgg37 (fun w b=>dR d lr b b6 (by rintro _ rfl; rfl)) (e1 18 z z fun w b=>?_)))))))))
 obtain ⟨b7,f3,c⟩:=bn c
 refine wec call81 [f0,F6 b3.1,F6 b3.2,U6 18446744073709551615,I6 64] z z ((vv s b.to0 f3).mono ?_)
 rintro _ j4 ⟨I1055,f4,rfl,G,b⟩
 refine ⟨_,z,?_⟩
 replace b:=b.of1
 replace s:=s.mono (ro_le G)
 replace C:=C.mono (ro_le G)
 replace D:=D.mono (ro_le G)
 replace F:=F.mono (ro_le G)
 replace h:=h.trans G
 refine wn [1,0] b (pkr z z (fun w b=>ao z isAgg31 (b.bc8 z)) (pf z z underlying33 z sizeOf31 bu)) (e1 19 z z fun w b=>?_)
 obtain ⟨I1060,H,V,b⟩:=b.cK
 replace s:=s.mono (ro_le H)
 replace C:=C.mono (ro_le H)
 replace D:=D.mono (ro_le H)
 replace F:=F.mono (ro_le H)
 replace h:=h.trans H
 obtain ⟨f5,f6,f7,f8,b⟩:=b.er (E:=(dG aw)) (xs:=[b7]) [[f4]] 81 1 z (bz.cons ⟨_,z,V,oS (ag V)⟩ bz.nil)
 refine bS (v:=(.slice (some ⟨f5,0,none⟩) 1 1)) (w':=f6) z (di (by obtain ⟨_,_,hv_,_⟩:=(ag V); rw [hv_]; kernel_rfl) f7 f8) (wn [1,0] b (pkr z z (fun w b=>ao z isAgg31 (b.bc8 z)) (pf z z underlying33 z sizeOf31 bu)) (e1 20 z z fun w b=>?_))
 obtain ⟨f9,c⟩:=cw c
 replace b:=b.aW
 obtain ⟨W,g0,g1,b⟩:=bE xU underlying31 b b.jr (cF f9 z) 31
 refine bS (v:=W) (w':=g0) z (bU z z g1) (w0n b (sf 21 z z underlying33 z sizeOf31 (e1 22 z z fun w b=>?_)))
 replace b:=b.bH
 refine b1e W b z (oS b.sv1) sizeOf31 fun j5 b=>w0n b (bi ?_)
 intro w b
 refine bB (tn (wrl (mi z (mi z (mi z (nt ?_))))))
 cases c
 exact ⟨_,nls,_,(L++([b7])),_,W,b2,fy z,h,(aj (Pt e9 0) a0 b.cV.cV.cV.cV ⟨z,s,C,D,F⟩).cV.ay.cV.cV.aY.aW.km⟩
}
 {
 intro e8 c
 refine wp_exit (aQ (aQ ?_))
 replace c:=bg c b2
 refine cZ (tn (ww (mz (av (cs:=[Zi,Zu,Zu,f,g]) z isAgg33 sizeOf33 (b.wq 0 z)) ?_)))
 replace b:=b.ap
 refine bxk b z sizeOf33 (oJ 3 z (oC (oS b.sv5) (oC (oS b.sv1) oN))) fun j6 b=>nt (wp_ret ?_)
 cases c
 exact aU [.agg #[Zi,Zu,Zu,f,g]] results34 (bj (bF (cs:=[Zi,Zu,Zu,f,g]) z isAgg33 sizeOf33 (b.eD 0 z)) ah) ⟨_,f,g,z,u,b.ay.ay.aW.dC⟩
}
}
}
theorem wF {a0:(List aB)} {h:Value} {a1:aB} {l:Value} (i:Ro cS I h a0) (Q:Ro (cg .u8) I l a1.Val) (b:St w0 w I [] R) {r:((List aB))} (c:om a0 a1=some r) :
  Calls prog 72 #[h,.agg #[F6 a1.At,U6 a1.Epoch,U6 a1.Index,.bool a1.Del,l]] w fun e w'=>∃ (L:Value),e = .returned (L)∧St w0 w' I [aZ cS L r] R:=by {
 unfold om at c
 refine c0 func72 z ntmps72 (ww ?_)
 obtain ⟨m,e8,S,T,b⟩:=b.box [F6 a1.At,U6 a1.Epoch,U6 a1.Index,.bool a1.Del,l] 139
 refine wa S T (mv ((.slice none 0 0)) z (nt (ww (mv ((.slice none 0 0)) z (nt ?_)))))
 obtain ⟨U,c,V⟩:=bn c
 refine cQ (fun a w=>∃ (t:(List aB)) (p:Value),(oY a1) t=some r∧fz 56 [3,5] [Pt m 0,p] a∧St w0 w I [cells m [F6 a1.At,U6 a1.Epoch,U6 a1.Index,.bool a1.Del,l],aZ cS p t] R) ?_ ?_
 {
 refine ww (mi z (nt (wp_block ?_)))
 replace b:=b.aX cS
 obtain ⟨W,c⟩:=aS c
 refine bf (fun n a w=>∃ (j:(List aB)) (F:Int) (k:Value),cP (lX a0 a1) n (j,F)=some U∧fz 56 [0,3,5,6] [h,Pt m 0,k,I6 F] a∧St w0 w I [aZ cS k j,cells m [F6 a1.At,U6 a1.Epoch,U6 a1.Index,.bool a1.Del,l]] R) W ⟨[],0,Zs,c,fy z,b⟩ ?_
 rintro e9 _ f0 ⟨j,F,k,c,⟨f1,rfl⟩,b⟩
 obtain ⟨f2,f3,rfl,c,u⟩:=aV c
 dsimp only [lX] at c
 refine wp_seq (ww (mi z (mv (h) z (mz (bW z underlying124 (ag i)) (mb z (nt (bw c z ?_ ?_)))))))
 {
 intro X c
 refine wp_skip (tn (wp_seq (wp_block (wp_seq (rg b 29 [0,0,3,7,15,0,32,127,255,511,1023,1023,4095,8191,16383,1023,33791,131071,262143,524287,1048575,1048575,4194303,8388607,16777215,1048575,34603007,134217727,268435455] [] mixed (sz (h) 0 z z (si 1 z z ?_)))))))
 obtain ⟨d,Y,c⟩:=bn c
 obtain ⟨q,s,G⟩:=aK Y
 refine sh _ 2 z (fun w b=>az z z underlying124 sizeOf139 (ag i) q s) (sh _ 3 z (fun w b=>aR z underlying139 z sizeOf37 z) ?_)
 obtain ⟨f4,Z,b0⟩:=Ro.jV i G
 obtain ⟨f5,rfl,f6,-⟩:=Z
 refine sl 4 z z isAgg37 (fun w b=>(b0 lr b) 0 _ z) (sf 5 z z underlying139 z sizeOf37 (sl 6 z z isAgg37 (fun w b=>b.bc1 z) (e1 7 z z fun w b=>?_)))
 obtain ⟨f7,b1,c⟩:=bn c
 refine wec call20 [F6 d.At,F6 a1.At] z z (kca (et b.to0 b1) fun f8 b=>?_)
 replace b:=b.of0
 refine w0n b (sb 8 z z (sb 9 z z (bs c ?_ ?_)))
 {
 intro f c
 refine so 10 z f (so 11 z f (so 12 z f (so 13 z f (so 14 z f (so 15 z f (so 16 z f (so 17 z f (sh (.bool _) 18 z (fun w b=>aM f z z) (sb 19 z z (sq 20 z (sq 21 z (sq 22 z (sq 23 z (sq 24 z (sq 25 z (sq 26 z (sq 27 z (sh (.bool _) 28 z (fun w b=>aM z z z) (bi ?_)))))))))))))))))))
 intro w b
 refine tn (dq z (wrl (mv (k) z (mv (h) z (mi z (mz (az z z underlying124 sizeOf139 (ag i) q s) ?_))))))
 obtain ⟨f9,b2,b3⟩:=Ro.jV i G
 obtain ⟨M,rfl,N,-⟩:=b2
 refine mz (av (cs:=[F6 d.At,U6 d.Epoch,U6 d.Index,.bool d.Del,M]) z isAgg139 sizeOf139 (dO (o:=0) (b3 lr b) z)) ?_
 obtain ⟨b4,b5,b6,b7,b⟩:=b.er (E:=cS) (xs:=[d]) [[F6 d.At,U6 d.Epoch,U6 d.Index,.bool d.Del,M]] 139 1 z (bz.cons ⟨_,z,N,oS (ag N)⟩ bz.nil)
 refine bY (v:=(.slice (some ⟨b4,0,none⟩) 1 1)) (w':=b5) z z (di (by kernel_rfl) b6 b7) ?_
 obtain ⟨b8,c⟩:=cw c
 replace b:=b.ab
 obtain ⟨H,b9,c1,b⟩:=bE tN underlying124 b b.jr (cF b8 z) 124
 refine bY (v:=H) (w':=b9) z z (bU z z c1) (mv (H) z (dk (bB (tn (wrl (mi z (mi z (mi z (nt ?_)))))))))
 cases c
 exact ⟨_,nls,(j++([d])),_,H,u,fy z,b.ay.ab.cd⟩
}
 {
 intro f c
 refine sgz h 10 z f z (sgz (I6 _) 11 z f z (sg _ 12 z f (fun w b=>az z z underlying124 sizeOf139 (ag i) q s) (sg _ 13 z f (fun w b=>aR z underlying139 z sizeOf26 z) ?_)))
 obtain ⟨g0,c2,y⟩:=Ro.jV i G
 obtain ⟨A,rfl,B,-⟩:=c2
 refine sg _ 14 z f (fun w b=>ao z isAgg26 ((y lr b) 1 _ z)) (sg _ 15 z f (fun w b=>aO z underlying139 z sizeOf26 z) (sg _ 16 z f (fun w b=>ao z isAgg26 (b.bc1 z)) (sgz (.bool _) 17 z f z (sh (.bool _) 18 z (fun w b=>aE f z z) (sb 19 z z (bs c ?_ ?_))))))
 {
 intro g c
 refine so 20 z g (so 21 z g (so 22 z g (so 23 z g (so 24 z g (so 25 z g (so 26 z g (so 27 z g (sh (.bool _) 28 z (fun w b=>aM g z z) (bi ?_)))))))))
 intro w b
 refine tn (dq z (wrl (mv (k) z (mv (h) z (mi z (mz (az z z underlying124 sizeOf139 (ag i) q s) (mz (av (cs:=[F6 d.At,U6 d.Epoch,U6 d.Index,.bool d.Del,A]) z isAgg139 sizeOf139 (dO (o:=0) (y lr b) z)) ?_)))))))
 obtain ⟨c3,c4,c5,c6,b⟩:=b.er (E:=cS) (xs:=[d]) [[F6 d.At,U6 d.Epoch,U6 d.Index,.bool d.Del,A]] 139 1 z (bz.cons ⟨_,z,B,oS (ag B)⟩ bz.nil)
 refine bY (v:=(.slice (some ⟨c3,0,none⟩) 1 1)) (w':=c4) z z (di (by kernel_rfl) c5 c6) ?_
 obtain ⟨c7,c⟩:=cw c
 replace b:=b.ab
 obtain ⟨J,c8,c9,b⟩:=bE tN underlying124 b b.jr (cF c7 z) 124
 refine bY (v:=J) (w':=c8) z z (bU z z c9) (mv (J) z (dk (bB (tn (wrl (mi z (mi z (mi z (nt ?_)))))))))
 cases c
 exact ⟨_,nls,(j++([d])),_,J,u,fy z,b.ay.ab.cd⟩
}
 {
 intro g c
 refine sgz h 20 z g z (sgz (I6 _) 21 z g z (sg _ 22 z g (fun w b=>az z z underlying124 sizeOf139 (ag i) q s) (sg _ 23 z g (fun w b=>aR z underlying139 z sizeOf26 z) (sg _ 24 z g (fun w b=>ao z isAgg26 ((y lr b) 2 _ z)) (sg _ 25 z g (fun w b=>aO z underlying139 z sizeOf26 z) (sg _ 26 z g (fun w b=>ao z isAgg26 (b.bc1 z)) (sgz (.bool _) 27 z g z (sh (.bool _) 28 z (fun w b=>aE g z z) (bi ?_)))))))))
 intro w b
 refine tn (bw c z ?_ ?_)
 {
 intro d0 c
 refine wrl (mv (k) z (mv (h) z (mi z (mz (az z z underlying124 sizeOf139 (ag i) q s) (mz (av (cs:=[F6 d.At,U6 d.Epoch,U6 d.Index,.bool d.Del,A]) z isAgg139 sizeOf139 (dO (o:=0) (y lr b) z)) ?_)))))
 obtain ⟨d1,d2,d3,d4,b⟩:=b.er (E:=cS) (xs:=[d]) [[F6 d.At,U6 d.Epoch,U6 d.Index,.bool d.Del,A]] 139 1 z (bz.cons ⟨_,z,B,oS (ag B)⟩ bz.nil)
 refine bY (v:=(.slice (some ⟨d1,0,none⟩) 1 1)) (w':=d2) z z (di (by kernel_rfl) d3 d4) ?_
 obtain ⟨d5,c⟩:=cw c
 replace b:=b.ab
 obtain ⟨K,d6,d7,b⟩:=bE tN underlying124 b b.jr (cF d5 z) 124
 refine bY (v:=K) (w':=d6) z z (bU z z d7) (mv (K) z (dk (bB (tn (wrl (mi z (mi z (mi z (nt ?_)))))))))
 cases c
 exact ⟨_,nls,(j++([d])),_,K,u,fy z,b.ay.ab.cd⟩
}
 {
 intro d0 c
 refine wp_skip (bB (tn (wrl (mi z (mi z (mi z (nt ?_)))))))
 cases c
 exact ⟨_,nls,j,_,k,u,fy z,b.ab.ab.cd⟩
}
}
}
}
 {
 intro X c
 refine wp_exit (aQ (aQ ?_))
 replace c:=bg c u
 refine cZ (tn ?_)
 obtain rfl:=sj c
 exact ⟨j,k,V,fy z,b.ab.cd⟩
}
}
 {
 rintro _ g1 ⟨t,p,c,⟨g2,rfl⟩,b⟩
 dsimp only [oY] at c
 obtain ⟨g3,c,O⟩:=bn c
 refine cQ (fun a w=>∃ (C:(List Int)) (x:Value),(ph t a1) C=some r∧fz 56 [3,5] [Pt m 0,p] a∧Ro (cg .u8) I x C∧St w0 w I [cells m [F6 a1.At,U6 a1.Epoch,U6 a1.Index,.bool a1.Del,x],aZ cS p t] R) ?_ ?_
 {
 refine ww (mf z underlying139 z sizeOf4 (ml z isAgg4 (b.bc0 z) (nt (bw c z ?_ ?_))))
 {
 intro d8 c
 refine wrl (mf z underlying139 z sizeOf22 (byk (.slice none 0 0) b z sizeOf22 (oC z oN) fun g4 b=>nt ?_))
 have d9:Ro (cg .u8) I (.slice none 0 0) []:=cv
 cases c
 exact ⟨([]),Zs,O,fy z,d9,b.ab.ab.cd⟩
}
 {
 intro d8 c
 refine wp_skip (tn ?_)
 cases c
 exact ⟨_,l,O,fy z,Q,b.ab.ab.cd⟩
}
}
 {
 rintro _ g5 ⟨C,x,c,⟨g6,rfl⟩,P,b⟩
 dsimp only [ph] at c
 refine ww (mv (p) z (mz (av (cs:=[F6 a1.At,U6 a1.Epoch,U6 a1.Index,.bool a1.Del,x]) z isAgg139 sizeOf139 (b.eD 0 z)) ?_))
 obtain ⟨e0,e2,e3,e4,b⟩:=b.er (E:=cS) (xs:=[({a1 with Val:=C}:aB)]) [[F6 a1.At,U6 a1.Epoch,U6 a1.Index,.bool a1.Del,x]] 139 1 z (bz.cons ⟨_,z,P,oS (ag P)⟩ bz.nil)
 refine bY (v:=(.slice (some ⟨e0,0,none⟩) 1 1)) (w':=e2) z z (di (by kernel_rfl) e3 e4) ?_
 obtain ⟨e5,c⟩:=cw c
 replace b:=b.ay
 obtain ⟨D,e6,e7,b⟩:=bE tN underlying124 b b.jr (cF e5 z) 124
 refine bY (v:=D) (w':=e6) z z (bU z z e7) (mv (D) z (nt (wp_ret ?_)))
 cases c
 exact aU [D] results72 (rc z ah) ⟨D,z,b.bo⟩
}
}
}
theorem lI {a0:(List cq)} {f:Value} {a1:Int} (g:Ro ey I f a0) (c:St w0 w I [] R) {r:(cq)} (b:iC a0 a1=some r) :
  Calls prog 93 #[f,U6 a1] w fun e w'=>∃ (I':HL) (l:Value) (m:Value),e = .returned (.agg #[U6 r.Session,U6 r.Seq,I6 r.R.E,U6 r.R.Epoch,U6 r.R.Index,l,m])∧I.le I'∧Ro aA I' l r.R.Gots∧Ro (dG aw) I' m r.R.Scans∧St w0 w' I' [] R:=by {
 unfold iC at b
 refine c0 func93 z ntmps93 ?_
 have p:=HL.le.refl I
 refine ww ?_
 obtain ⟨q,L,y,A,c⟩:=c.box [Zu,Zu,Zi,Zu,Zu,Zs,Zs] 164
 refine wa y A (nt (wp_seq (ww (mi z (nt (wp_block ?_))))))
 obtain ⟨B,b⟩:=aS b
 refine bf (fun n a w=>∃ (j:Int),cP (jR a0 a1) n j=some r∧fz 25 [0,1,4,5] [f,U6 a1,Pt q 0,I6 j] a∧St w0 w I [cells q [Zu,Zu,Zi,Zu,Zu,Zs,Zs]] R) B ⟨0,b,fy z,c⟩ ?_
 rintro M _ N ⟨j,b,⟨O,rfl⟩,c⟩
 obtain ⟨P,Q,rfl,b,k⟩:=aV b
 dsimp only [jR] at b
 refine wp_seq (ww (mi z (mv (f) z (mz (bW z underlying126 (ag g)) (mb z (nt (bw b z ?_ ?_)))))))
 {
 intro C b
 refine wp_skip (tn (wp_seq (wp_block (ww (mv (f) z (mi z ?_))))))
 obtain ⟨d,D,b⟩:=bn b
 obtain ⟨s,t,F⟩:=aK D
 refine mz (az z z underlying126 sizeOf164 (ag g) s t) (mz (aR z underlying164 z sizeOf26 z) ?_)
 obtain ⟨S,G,u⟩:=Ro.jV g F
 obtain ⟨h,i,rfl,v,x,-⟩:=G
 refine ml z isAgg26 ((u lr c) 0 _ z) (mi z (mb z (nt (bw b z ?_ ?_))))
 {
 intro H b
 refine ww (mv (f) z (mi z (mz (az z z underlying126 sizeOf164 (ag g) s t) (mz (av (cs:=[U6 d.Session,U6 d.Seq,I6 d.R.E,U6 d.R.Epoch,U6 d.R.Index,h,i]) z isAgg164 sizeOf164 (dO (o:=0) (u lr c) z)) (bxk c z sizeOf164 (oJ 5 z (oC (oS (ag v)) (oC (oS (ag x)) oN))) fun T c=>nt (wp_ret (dj (aI (aI ?_)))))))))
 replace b:=bg b k
 refine dj (aI ?_)
 obtain rfl:=sj b
 exact aU [.agg #[U6 d.Session,U6 d.Seq,I6 d.R.E,U6 d.R.Epoch,U6 d.R.Index,h,i]] results93 (bj (bF (cs:=[U6 d.Session,U6 d.Seq,I6 d.R.E,U6 d.R.Epoch,U6 d.R.Index,h,i]) z isAgg164 sizeOf164 (c.eD 0 z)) ah) ⟨_,h,i,z,p,v,x,c.bQ⟩
}
 {
 intro H b
 refine wp_skip (bB (tn (wrl (mi z (mi z (mi z (nt ?_)))))))
 cases b
 exact ⟨_,nls,_,k,fy z,c.bo⟩
}
}
 {
 intro C b
 refine wp_exit (aQ (aQ ?_))
 replace b:=bg b k
 refine cZ (tn (ww (mi z (mk (.agg #[U6 a1,Zu,Zi,Zu,Zu,Zs,Zs]) (bxk c z sizeOf164 (oJ 7 z oN) fun U c=>nt (wp_ret ?_))))))
 have J:Ro aA I (.slice none 0 0) []:=cv
 have K:Ro (dG aw) I (.slice none 0 0) []:=cv
 cases b
 exact aU [.agg #[U6 a1,Zu,Zi,Zu,Zu,Zs,Zs]] results93 (bj (bF (cs:=[U6 a1,Zu,Zi,Zu,Zu,Zs,Zs]) z isAgg164 sizeOf164 (c.eD 0 z)) ah) ⟨_,Zs,Zs,z,p,J,K,c.bQ⟩
}
}
end Go.Proofs.YtgnkkopjkgdieaaGreat
