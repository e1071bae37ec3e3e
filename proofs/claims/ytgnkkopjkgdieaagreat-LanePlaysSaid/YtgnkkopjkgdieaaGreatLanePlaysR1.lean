/- A part of the proof. -/
import Derived.Test.YtgnkkopjkgdieaaGreatLanePlaysR0
set_option linter.unusedVariables false
set_option linter.unusedSimpArgs false
set_option maxRecDepth 100000
set_option maxHeartbeats 4000000
namespace Go.Proofs.YtgnkkopjkgdieaaGreat
open Go Go.V
open _root_.Go.Proofs.Tryz IntKind
variable {w0 w:World} {I:HL} {R:SP}
attribute [local irreducible] wpList Code.wp wpQuiet Calls bodyPost Oper.wp wpS Nx gE YieldsIn
theorem rR {a0:(Option bZ)} {p0:Value} {a1:al} {k m p q:Value} (b5:Rd bV R I k a1.Gets) (b6:Rd gn R I m a1.Scans) (b7:Rd bV R I p a1.Puts) (b8:Rd (cg .u8) R I q a1.Data) (b:St w0 w I [cE bP p0 a0] R) {r:(Int×(Option bZ))} (c:gM a0 a1=some r) :
  Calls prog 58 #[p0,.agg #[U6 a1.ID.Session,U6 a1.ID.Seq,U6 a1.Epoch,k,m,p,q]] w fun e w'=>∃ (I':HL),e = .returned (.int .i64 r.1)∧I.le I'∧St w0 w' I' [cE bP p0 r.2] R:=by {
 rcases a0 with _ | s
 {
 dsimp only [gM] at c
 cases c
}
 {
 replace b:=bD b
 dsimp only [gM] at c
 refine c0 func58 z ntmps58 ?_
 have d:=HL.le.refl I
 refine ww ?_
 obtain ⟨H,g9,d0,d1,b⟩:=b.box [U6 a1.ID.Session,U6 a1.ID.Seq,U6 a1.Epoch,k,m,p,q] 46
 refine wa d0 d1 (mi z (nt (wp_seq (ww (mv (p0) z ?_)))))
 obtain ⟨g,O,rfl,d2⟩:=dB b.ab
 have b:=d2
 refine mk (.bool false) (nt (bT z (wp_skip (tn ?_))))
 obtain ⟨d3,c,b9⟩:=dY c
 refine cQ (fun a w =>(iG a1 s) ()=some r∧fz 74 [0,3] [Pt g 0,Pt H 0] a∧St w0 w I [bP (Pt g 0) s,cells H [U6 a1.ID.Session,U6 a1.ID.Seq,U6 a1.Epoch,k,m,p,q]] R) ?_ ?_
 {
 refine ww (mp z (mp z (mf z underlying203 z sizeOf125 (ml z isAgg125 (b.bc0 z) (mz (bW z underlying125 b.sv1) (mi z (nt (wp_block ?_))))))))
 obtain ⟨d4,c⟩:=aS c
 refine bf (fun n a w=>∃ (Q:Int),cP (gl s a1) n Q=some d3∧fz 74 [0,3,14,15,16] [Pt g 0,Pt H 0,O,I6 ((s.l).length:Int),I6 Q] a∧St w0 w I [cells g [O],aZ bm O s.l,cells H [U6 a1.ID.Session,U6 a1.ID.Seq,U6 a1.Epoch,k,m,p,q]] R) d4 ⟨0,c,fy z,b⟩ ?_
 rintro h0 _ h1 ⟨Q,c,⟨h2,rfl⟩,b⟩
 obtain ⟨h3,h4,rfl,c,J⟩:=aV c
 dsimp only [gl] at c
 refine ww (mb z (nt (wp_seq (bw c z ?_ ?_))))
 {
 intro d5 c
 refine wp_skip (tn (wp_seq (wp_block (ww ?_))))
 obtain ⟨f,d6,c⟩:=bn c
 obtain ⟨d7,d8,d9⟩:=aK d6
 refine mz (az z z underlying125 sizeOf46 b.sv1 d7 d8) ?_
 obtain ⟨h5,e0,e2⟩:=b.og1 d9
 obtain ⟨S,T,U,V,rfl,c1,c2,c3,c4,-⟩:=e0
 refine mz (av (cs:=[U6 f.ID.Session,U6 f.ID.Seq,U6 f.Epoch,S,T,U,V]) z isAgg46 sizeOf46 (dO (o:=0) e2 z)) ?_
 obtain ⟨h6,h7,e3,e4,b⟩:=b.box [Zu,Zu,Zu,Zs,Zs,Zs,Zs] 46
 refine wa e3 e4 (bxk b z sizeOf46 (oJ 3 z (oC (oS (ag c1)) (oC (oS (ag c2)) (oC (oS (ag c3)) (oC (oS (ag c4)) oN))))) fun h8 b=>nt (ww (mf z underlying46 z sizeOf28 (mz (av (cs:=[U6 f.ID.Session,U6 f.ID.Seq]) z isAgg28 sizeOf28 (b.eD 0 z)) (mf z underlying46 z sizeOf28 (mz (av (cs:=[U6 a1.ID.Session,U6 a1.ID.Seq]) z isAgg28 sizeOf28 (b.rU 0 z)) (mb (rJ z z (by kernel_rfl) underlying28 (by kernel_rfl) (by kernel_rfl) (by kernel_rfl) underlying26 underlying26 (fun _ _ _=>by kernel_rfl) (fun _ _ _=>by kernel_rfl)) (mb z (bs c ?_ ?_)))))))))
 {
 intro i c
 refine gg i (av (cs:=[U6 f.ID.Session,U6 f.ID.Seq,U6 f.Epoch,S,T,U,V]) z isAgg46 sizeOf46 (b.eD 0 z)) (gg i (av (cs:=[U6 a1.ID.Session,U6 a1.ID.Seq,U6 a1.Epoch,k,m,p,q]) z isAgg46 sizeOf46 (b.rU 0 z)) ?_)
 obtain ⟨h9,e5,c⟩:=bn c
 refine de ((ar z z z (cvb i)).trans z) z (js call140 z (vs:=[.agg #[U6 f.ID.Session,U6 f.ID.Seq,U6 f.Epoch,S,T,U,V],.agg #[U6 a1.ID.Session,U6 a1.ID.Seq,U6 a1.Epoch,k,m,p,q]]) z) (kca (vy (c1.mono cz) (c2.mono cz) (c3.mono cz) (c4.mono cz) (b5.mono (cy _)) (b6.mono (cy _)) (b7.mono (cy _)) (b8.mono (cy _)) b.to0 e5) fun i0 b=>?_)
 replace b:=b.of0
 refine mb (aM i z z) (nt (bw c z ?_ ?_))
 {
 intro e6 c
 refine ww (mi z (nt (wp_ret (dj (aI (aI ?_))))))
 replace c:=bg c J
 refine dj (aI ?_)
 replace c:=bg c b9
 cases c
 exact aU [I6 8] results58 (rc z ah) ⟨_,z,d,(aJ (dl (Pt g 0) s b.ay.ay z)).bo⟩
}
 {
 intro e6 c
 refine wp_skip (bB (tn (wrl (mi z (mi z (nt ?_))))))
 cases c
 exact ⟨_,nls,_,J,fy z,b.ap.ap.ap.dC⟩
}
}
 {
 intro i c
 refine go i (go i (go i (mb (aE i z z) (nt (bT z (wp_skip (bB (tn (wrl (mi z (mi z (nt ?_))))))))))))
 cases c
 exact ⟨_,nls,_,J,fy z,b.ap.ap.ap.dC⟩
}
}
 {
 intro d5 c
 refine wp_exit (aQ (aQ ?_))
 replace c:=bg c J
 refine cZ (tn ?_)
 cases c
 exact ⟨b9,fy z,(dl (Pt g 0) s b.ab.ab z).ab.ab.cd⟩
}
}
 {
 rintro _ i1 ⟨c,⟨i2,rfl⟩,b⟩
 dsimp only [iG] at c
 refine wp_seq (rg b 18 [0,1,0,4,0,16,48,0,128,496,0,1024,4080,0,8192,32752,65535,131071] [] mixed (sf 0 z z underlying46 z sizeOf28 (sh _ 1 z (fun w b=>av (cs:=[U6 a1.ID.Session,U6 a1.ID.Seq]) z isAgg28 sizeOf28 (b.eI 0 z)) (sf 2 z z underlying46 z sizeOf26 (sl 3 z z isAgg26 (fun w b=>b.bc1 z) (sf 4 z z underlying46 z sizeOf43 (sl 5 z z isAgg43 (fun w b=>b.bc1 z) (sf 7 z z underlying46 z sizeOf44 (sl 8 z z isAgg44 (fun w b=>b.bc1 z) (sf 10 z z underlying46 z sizeOf43 (sl 11 z z isAgg43 (fun w b=>b.bc1 z) (sf 13 z z underlying46 z sizeOf22 (sl 14 z z isAgg22 (fun w b=>b.bc1 z) (e1 6 z z fun w b=>?_))))))))))))))
 obtain ⟨W,e7,c⟩:=bn c
 refine wec call141 [k] z z (kcb (jx (b5.mono (cy _)) b.to0 e7) fun B i3 b=>?_)
 replace b:=b.of1
 refine wn [14,13,11,10,8,7,3,2,1,0] b (pkr z z (fun w b=>ao z isAgg22 (b.bc2 z)) (pf z z underlying46 z sizeOf22 (pkr z z (fun w b=>ao z isAgg43 (b.bc2 z)) (pf z z underlying46 z sizeOf43 (pkr z z (fun w b=>ao z isAgg44 (b.bc2 z)) (pf z z underlying46 z sizeOf44 (pkr z z (fun w b=>ao z isAgg26 (b.bc2 z)) (pf z z underlying46 z sizeOf26 (pkr z z (fun w b=>av (cs:=[U6 a1.ID.Session,U6 a1.ID.Seq]) z isAgg28 sizeOf28 (b.pQ 0 z)) (pf z z underlying46 z sizeOf28 bu)))))))))) (e1 9 z z fun w b=>?_)
 obtain ⟨X,e8,c⟩:=bn c
 refine wec call142 [m] z z (kcb (mq (b6.mono (cy _)) b.to0 e8) fun C i4 b=>?_)
 replace b:=b.of1
 refine wn [14,13,11,10,3,2,1,0] b (pkr z z (fun w b=>ao z isAgg22 (b.bc3 z)) (pf z z underlying46 z sizeOf22 (pkr z z (fun w b=>ao z isAgg43 (b.bc3 z)) (pf z z underlying46 z sizeOf43 (pkr z z (fun w b=>ao z isAgg26 (b.bc3 z)) (pf z z underlying46 z sizeOf26 (pkr z z (fun w b=>av (cs:=[U6 a1.ID.Session,U6 a1.ID.Seq]) z isAgg28 sizeOf28 (b.rU 0 z)) (pf z z underlying46 z sizeOf28 bu)))))))) (e1 12 z z fun w b=>?_)
 obtain ⟨Y,e9,c⟩:=bn c
 refine wec call141 [p] z z (kcb (jx (b7.mono (cy _)) b.to0 e9) fun D i5 b=>?_)
 replace b:=b.of1
 refine wn [14,13,3,2,1,0] b (pkr z z (fun w b=>ao z isAgg22 (b.bc4 z)) (pf z z underlying46 z sizeOf22 (pkr z z (fun w b=>ao z isAgg26 (b.bc4 z)) (pf z z underlying46 z sizeOf26 (pkr z z (fun w b=>av (cs:=[U6 a1.ID.Session,U6 a1.ID.Seq]) z isAgg28 sizeOf28 (b.wq 0 z)) (pf z z underlying46 z sizeOf28 bu)))))) (e1 15 z z fun w b=>?_)
 obtain ⟨Z,f0,c⟩:=bn c
 refine wec call143 [q] z z (kcb (jg (b8.mono (cy _)) b.to0 f0) fun F i6 b=>?_)
 replace b:=b.of1
 refine wn [3,2,1,0] b (pkr z z (fun w b=>ao z isAgg26 (b.bc5 z)) (pf z z underlying46 z sizeOf26 (pkr z z (fun w b=>av (cs:=[U6 a1.ID.Session,U6 a1.ID.Seq]) z isAgg28 sizeOf28 (b.xB 0 z)) (pf z z underlying46 z sizeOf28 bu)))) (wsr (.agg #[U6 a1.ID.Session,U6 a1.ID.Seq,U6 a1.Epoch,B,C,D,F]) 16 rfl rfl rfl (by kernel_rfl) (fun w b=>by obtain ⟨_,_,hv_,_⟩:=b.sv0; rw [hv_]; obtain ⟨_,_,hv_,_⟩:=b.sv1; rw [hv_]; obtain ⟨_,_,hv_,_⟩:=b.sv2; rw [hv_]; obtain ⟨_,_,hv_,_⟩:=b.sv3; rw [hv_]; kernel_rfl) (e1 17 z z fun w b=>?_))
 replace b:=b.aW
 refine bxe b z sizeOf46 (oJ 3 z (oC (oS b.sv4) (oC (oS b.sv3) (oC (oS b.sv2) (oC (oS b.sv1) oN))))) fun i7 b=>w0n b (bi ?_)
 intro w b
 refine tn (ww (mp z (mf z underlying46 z sizeOf28 (mz (av (cs:=[U6 a1.ID.Session,U6 a1.ID.Seq]) z isAgg28 sizeOf28 (b.eD 0 z)) ?_))))
 replace b:=aJ b.aW
 obtain ⟨K,f1,c⟩:=bn c
 refine wc call135 [Pt g 0,.agg #[U6 a1.ID.Session,U6 a1.ID.Seq]] z z z (kca (lV b.to1 f1) fun i8 b=>?_)
 replace b:=bD b.of1
 refine mv (.tuple #[I6 K.1,.bool K.2]) z (mi z (mb z (mi z (mb z (nt (wp_seq (ww (mb z (nt (bw c z ?_ ?_))))))))))
 {
 intro f2 c
 obtain ⟨i9,j0,b0,f3⟩:=dB b
 replace b0:=dF b0
 subst b0
 have b:=f3
 refine rg b 8 [0,1,3,7,0,0,63,127] [] mixed (sp 0 z z (sp 1 z z (sf 2 z z underlying203 z sizeOf125 (sl 3 z z isAgg125 (fun w b=>b.bc0 z) (si 4 z z (sh _ 5 z (fun w b=>av (cs:=[U6 a1.ID.Session,U6 a1.ID.Seq,U6 a1.Epoch,B,C,D,F]) z isAgg46 sizeOf46 (b.pQ 0 z)) ?_))))))
 obtain ⟨j1,f4,c⟩:=bn c
 obtain ⟨f5,f6,c5⟩:=aK f4
 refine sh _ 6 z (fun w b=>az z z underlying125 sizeOf46 b.sv1 f5 f6) (e1 7 z z fun w b=>?_)
 obtain ⟨j2,f7,j3⟩:=b.og1 c5
 obtain ⟨j4,j5,j6,j7,rfl,j8,j9,k0,k1,-⟩:=f7
 replace b:=b.cV
 obtain ⟨I725,f8,j,b⟩:=b.cK
 replace d:=d.trans f8
 replace b:=b.aW
 obtain ⟨I728,c6,x,b⟩:=b.cK
 replace j:=j.mono (ro_le c6)
 replace d:=d.trans c6
 replace b:=b.aY
 obtain ⟨I731,b1,G,b⟩:=b.cK
 replace j:=j.mono (ro_le b1)
 replace x:=x.mono (ro_le b1)
 replace d:=d.trans b1
 replace b:=b.ap
 obtain ⟨I734,L,b2,b⟩:=b.cK
 replace j:=j.mono (ro_le L)
 replace x:=x.mono (ro_le L)
 replace G:=G.mono (ro_le L)
 replace d:=d.trans L
 replace b:=b.ab
 obtain ⟨k2,f9,b⟩:=b.nW (P:=prog) (t:=46) (y:=({a1 with Gets:=W,Scans:=X,Puts:=Y,Data:=Z}:al)) c5 0 (.agg #[U6 a1.ID.Session,U6 a1.ID.Seq,U6 a1.Epoch,B,C,D,F]) sizeOf46 (Nat.le_of_ble_eq_true z) (oJ 3 z (oC (oS (ag j)) (oC (oS (ag x)) (oC (oS (ag G)) (oC (oS (ag b2)) oN))))) (fun cs h=>⟨_,_,_,_,uL (bm.len h) z,j,x,G,b2,oS (ag j),oS (ag x),oS (ag G),oS (ag b2)⟩)
 refine qf z (oa f9) (w0n b (bi ?_))
 intro w b
 refine tn (ww (mi z (nt (wp_ret ?_))))
 cases c
 exact aU [Zi] results58 (rc z ah) ⟨_,z,d,(aJ (dl (Pt g 0) (({l:=(s.l.set K.1.toNat ({a1 with Gets:=W,Scans:=X,Puts:=Y,Data:=Z}:al))}:bZ)) b.ab z)).bo⟩
}
 {
 intro f2 c
 obtain ⟨k3,g0,b3,g1⟩:=dB b
 replace b3:=dF b3
 subst b3
 have b:=g1
 refine rg b 12 [0,0,2,6,14,0,0,64,254,511,1023,2047] [] mixed (sp 0 z z (sp 1 z z (sp 2 z z (sf 3 z z underlying203 z sizeOf125 (sl 4 z z isAgg125 (fun w b=>b.bc0 z) (si 5 z z (sh _ 6 z (fun w b=>av (cs:=[U6 a1.ID.Session,U6 a1.ID.Seq,U6 a1.Epoch,B,C,D,F]) z isAgg46 sizeOf46 (b.pQ 0 z)) (e1 7 z z fun w b=>?_))))))))
 replace b:=b.cV
 obtain ⟨I749,g2,u,b⟩:=b.cK
 replace d:=d.trans g2
 replace b:=b.aW
 obtain ⟨I752,c7,A,b⟩:=b.cK
 replace u:=u.mono (ro_le c7)
 replace d:=d.trans c7
 replace b:=b.aY
 obtain ⟨I755,b4,M,b⟩:=b.cK
 replace u:=u.mono (ro_le b4)
 replace A:=A.mono (ro_le b4)
 replace d:=d.trans b4
 replace b:=b.ap
 obtain ⟨I758,N,c8,b⟩:=b.cK
 replace u:=u.mono (ro_le N)
 replace A:=A.mono (ro_le N)
 replace M:=M.mono (ro_le N)
 replace d:=d.trans N
 obtain ⟨c9,g3,g4,g5,b⟩:=b.er (E:=bm) (xs:=[({a1 with Gets:=W,Scans:=X,Puts:=Y,Data:=Z}:al)]) [[U6 a1.ID.Session,U6 a1.ID.Seq,U6 a1.Epoch,B,C,D,F]] 46 1 z (bz.cons ⟨_,_,_,_,z,u,A,M,c8,oS (ag u),oS (ag A),oS (ag M),oS (ag c8)⟩ bz.nil)
 refine bS (v:=(.slice (some ⟨c9,0,none⟩) 1 1)) (w':=g3) z (di (by kernel_rfl) g4 g5) (wn [5,4,3,2,1,0] b (pz (pkr z z (fun w b=>ao z isAgg125 (b.bc1 z)) (pf z z underlying203 z sizeOf125 (pz (pz (pz bu)))))) (e1 8 z z fun w b=>?_))
 replace b:=b.ay
 obtain ⟨g6,g7,c⟩:=bn c
 refine wec call144 [g0,I6 K.1,(.slice (some ⟨c9,0,none⟩) 1 1)] z z (kcb (mB b.to2 g7) fun g8 k4 b=>?_)
 replace b:=b.of1
 refine wn [0] b (pz bu) (sp 9 z z (sf 10 z z underlying203 z sizeOf125 (e1 11 z z fun w b=>?_)))
 replace b:=b.ab
 refine b1e g8 b z (oS b.sv1) sizeOf125 fun k5 b=>w0n b (bi ?_)
 intro w b
 refine tn (ww (mi z (nt (wp_ret ?_))))
 cases c
 exact aU [Zi] results58 (rc z ah) ⟨_,z,d,(aJ (dl (Pt g 0) (({l:=g6}:bZ)) b.ab.ab z)).bo⟩
}
}
}
}
theorem ta {a0:(Option ae)} {p0:Value} {a1:al} {i j k l:Value} (D:Rd bV R I i a1.Gets) (E:Rd gn R I j a1.Scans) (F:Rd bV R I k a1.Puts) (G:Rd (cg .u8) R I l a1.Data) (b:St w0 w I [cE aD p0 a0] R) {r:(Int×(Option ae))} (c:jt a0 a1=some r) :
  Calls prog 19 #[p0,.agg #[U6 a1.ID.Session,U6 a1.ID.Seq,U6 a1.Epoch,i,j,k,l]] w fun e w'=>∃ (I':HL),e = .returned (.int .i64 r.1)∧I.le I'∧St w0 w' I' [cE aD p0 r.2] R:=by {
 rcases a0 with _ | g
 {
 dsimp only [jt] at c
 cases c
}
 {
 replace b:=bD b
 dsimp only [jt] at c
 refine c0 func19 z ntmps19 ?_
 have m:=HL.le.refl I
 refine ww ?_
 obtain ⟨H,f3,c5,c6,b⟩:=b.box [U6 a1.ID.Session,U6 a1.ID.Seq,U6 a1.Epoch,i,j,k,l] 46
 refine wa c5 c6 (mi z (nt (wp_seq (ww (mv (p0) z ?_)))))
 obtain ⟨h,f4,b1,f5,f6,f7,f8,f9,rfl,c7⟩:=bc b.ab
 have b:=c7
 refine mk (.bool false) (nt (bT z (wp_skip (tn (wp_seq ?_)))))
 obtain ⟨g0,c,b2⟩:=bn c
 refine qT (fun a w=>∃ (I381:HL) (p:Int) (q:Int) (s:Int) (J:(List Nat)) (K:(List (Nat×Nat))) (L:(List Nat)) (M:(List Int)) (N:Bool) (O:Nat) (x:Value) (y:Value) (A:Value) (B:Value),(mV a1 g) (p,q,s,J,K,L,M,N)=some r∧fz 59 [0,3,5,6] [Pt h 0,Pt H 0,Pt O 0,.bool N] a∧I.le I381∧Ro bV I381 x J∧Ro gn I381 y K∧Ro bV I381 A L∧Ro (cg .u8) I381 B M∧St w0 w I381 [aD (Pt h 0) g,cells H [U6 a1.ID.Session,U6 a1.ID.Seq,U6 a1.Epoch,i,j,k,l],cells O [U6 p,U6 q,U6 s,x,y,A,B]] R) ?_ ?_
 {
 have t:=HL.le.refl I
 refine rg b 13 [0,1,3,7,0,16,63,127,255,255,0,1535,4095] [] mixed (sp 0 z z (sp 1 z z (sf 2 z z underlying111 z sizeOf103 (sl 3 z z isAgg103 (fun w b=>b.bc0 z) (sf 4 z z underlying46 z sizeOf28 (sh _ 5 z (fun w b=>av (cs:=[U6 a1.ID.Session,U6 a1.ID.Seq]) z isAgg28 sizeOf28 (b.wG 0 z)) (pC 6 10 (by kernel_rfl) ?_ ?_)))))))
 {
 refine nx z z fun w b=>?_
 replace b:=b.ay
 obtain ⟨n,c8,c⟩:=bn c
 refine wec call56 [b1,.agg #[U6 a1.ID.Session,U6 a1.ID.Seq]] z z ((mA b.to1 c8).mono ?_)
 rintro _ g1 ⟨I306,P,Q,S,T,rfl,c9,b3,b4,b5,b6,b⟩
 refine ⟨_,z,?_⟩
 replace b:=b.of1
 replace t:=t.trans c9
 refine w0n b (sz (.tuple #[.agg #[U6 n.1.ID.Session,U6 n.1.ID.Seq,U6 n.1.Epoch,P,Q,S,T],.bool n.2]) 7 z z (sz (.agg #[U6 n.1.ID.Session,U6 n.1.ID.Seq,U6 n.1.Epoch,P,Q,S,T]) 8 z z (sb 9 z z (e1 10 z z fun w b=>?_))))
 obtain ⟨b7,d0,d1,d2,b⟩:=b.box [Zu,Zu,Zu,Zs,Zs,Zs,Zs] 46
 refine bS (v:=Pt b7 0) (w':=d0) z (tO (by kernel_rfl) d1 d2) (wn [9,8,7] b (pz (pz (pz bu))) (e1 11 z z fun w b=>bxe b z sizeOf46 (oJ 3 z (oC (oS (ag b3)) (oC (oS (ag b4)) (oC (oS (ag b5)) (oC (oS (ag b6)) oN))))) fun g2 b=>wn [9] b (pz bu) (sb 12 z z (bi ?_))))
 intro w b
 refine ⟨z,?_⟩
 cases c
 exact ⟨_,_,_,_,_,_,_,_,_,b7,P,Q,S,T,b2,fy z,t,b3,b4,b5,b6,(aq (Pt h 0) g b.bH.bH.bH.bH.bH.cV.bH.bH z).ab.ay.ay.dC⟩
}
 {
 refine nx z z fun w b=>?_
 obtain ⟨b8,d3,d4,d5,b⟩:=b.box [Zu,Zu,Zu,Zs,Zs,Zs,Zs] 46
 refine bS (v:=Pt b8 0) (w':=d3) z (tO (by kernel_rfl) d4 d5) (wn [5,4,3,2,1,0] b (pkr z z (fun w b=>av (cs:=[U6 a1.ID.Session,U6 a1.ID.Seq]) z isAgg28 sizeOf28 (b.vR 0 z)) (pf z z underlying46 z sizeOf28 (pkr z z (fun w b=>ao z isAgg103 (b.bc1 z)) (pf z z underlying111 z sizeOf103 (pz (pz bu)))))) (e1 6 z z fun w b=>?_))
 replace b:=b.ap
 obtain ⟨o,d6,c⟩:=bn c
 refine wec call56 [b1,.agg #[U6 a1.ID.Session,U6 a1.ID.Seq]] z z ((mA b.to1 d6).mono ?_)
 rintro _ g3 ⟨I343,U,V,W,X,rfl,d7,b9,c1,c2,c3,b⟩
 refine ⟨_,z,?_⟩
 replace b:=b.of1
 replace t:=t.trans d7
 refine w0n b (sz (.tuple #[.agg #[U6 o.1.ID.Session,U6 o.1.ID.Seq,U6 o.1.Epoch,U,V,W,X],.bool o.2]) 7 z z (sz (.agg #[U6 o.1.ID.Session,U6 o.1.ID.Seq,U6 o.1.Epoch,U,V,W,X]) 8 z z (sb 9 z z (e1 11 z z fun w b=>?_))))
 replace b:=b.ab
 refine bxe b z sizeOf46 (oJ 3 z (oC (oS (ag b9)) (oC (oS (ag c1)) (oC (oS (ag c2)) (oC (oS (ag c3)) oN))))) fun g4 b=>wn [9] b (pz bu) (sb 12 z z (bi ?_))
 intro w b
 refine ⟨z,?_⟩
 cases c
 exact ⟨_,_,_,_,_,_,_,_,_,b8,U,V,W,X,b2,fy z,t,b9,c1,c2,c3,(aq (Pt h 0) g b.bH.bH.bH.bH.bH.cV.bH.bH z).ab.ay.ay.dC⟩
}
}
 {
 rintro _ g5 ⟨I381,p,q,s,J,K,L,M,N,O,x,y,A,B,c,⟨g6,rfl⟩,C,d8,d9,e0,e2,b⟩
 dsimp only [mV] at c
 replace D:=D.mono (nj C)
 replace E:=E.mono (nj C)
 replace F:=F.mono (nj C)
 replace G:=G.mono (nj C)
 replace m:=m.trans C
 refine tn ?_
 obtain ⟨g7,c,u⟩:=dY c
 refine cQ (fun a w =>(ee g a1) ()=some r∧fz 59 [0,3] [Pt h 0,Pt H 0] a∧St w0 w I381 [aD (Pt h 0) g,cells H [U6 a1.ID.Session,U6 a1.ID.Seq,U6 a1.Epoch,i,j,k,l]] R) ?_ ?_
 {
 refine wp_block (ww (mb z (mb z (bs c ?_ ?_))))
 {
 intro d c
 refine gg d (av (cs:=[U6 p,U6 q,U6 s,x,y,A,B]) z isAgg46 sizeOf46 (b.pQ 0 z)) (gg d (av (cs:=[U6 a1.ID.Session,U6 a1.ID.Seq,U6 a1.Epoch,i,j,k,l]) z isAgg46 sizeOf46 (b.eI 0 z)) ?_)
 obtain ⟨g8,e3,c⟩:=bn c
 refine de ((ar z z z (cvb d)).trans z) z (js call57 z (vs:=[.agg #[U6 p,U6 q,U6 s,x,y,A,B],.agg #[U6 a1.ID.Session,U6 a1.ID.Seq,U6 a1.Epoch,i,j,k,l]]) z) (kca (we (a0:=({ID:=({Session:=p,Seq:=q}:bK),Epoch:=s,Gets:=J,Scans:=K,Puts:=L,Data:=M}:al)) (d8.mono cz) (d9.mono cz) (e0.mono cz) (e2.mono cz) (D.mono (cy _)) (E.mono (cy _)) (F.mono (cy _)) (G.mono (cy _)) b.to0 e3) fun g9 b=>?_)
 replace b:=b.of0
 refine mb (aM d z z) (mb z (nt (bw c z ?_ ?_)))
 {
 intro e4 c
 refine ww (mi z (nt (wp_ret (dj (aI ?_)))))
 replace c:=bg c u
 cases c
 exact aU [Zi] results19 (rc z ah) ⟨_,z,m,(aJ b).bo⟩
}
 {
 intro e4 c
 refine ww (mb z (mb z (gg d (aO z underlying46 z sizeOf28 z) (gg d (aO z underlying28 z sizeOf26 z) (gg d (ao z isAgg26 (b.bc1 z)) (gb d z (gb d z (bs c ?_ ?_))))))))
 {
 intro f c
 refine go f (go f (go f (go f (go f (gb d (aM f z z) (mb (aM d z z) (mb z (nt (dq z (ww (mi z (nt (wp_ret (dj (aI ?_)))))))))))))))
 replace c:=bg c u
 cases c
 exact aU [I6 8] results19 (rc z ah) ⟨_,z,m,(aJ b).bo⟩
}
 {
 intro f c
 refine gg f (aO z underlying46 z sizeOf26 z) (gg f (ao z isAgg26 (b.bc1 z)) (gg f (aO z underlying46 z sizeOf26 z) (gg f (ao z isAgg26 (b.bc2 z)) (gb f z (gb d (aE f z z) (mb (aM d z z) (mb z (nt (bw c z ?_ ?_)))))))))
 {
 intro e5 c
 refine ww (mi z (nt (wp_ret (dj (aI ?_)))))
 replace c:=bg c u
 cases c
 exact aU [I6 8] results19 (rc z ah) ⟨_,z,m,(aJ b).bo⟩
}
 {
 intro e5 c
 refine wp_seq ?_
 obtain ⟨h0,h1,h2,h3,h4,h5,h6,h7,Y,e6⟩:=bc b
 replace Y:=dF Y
 subst Y
 have b:=e6
 refine dL b mixed (by kernel_rfl) (qz (.bool _) z (qz (.bool _) z (qz (.bool _) z (qo (uG d) (qo (uG d) (qo (uG d) (qo (uG d) (qo (uG d) (qo (uG d) (qo (uG d) (qh (.bool _) (fun w b=>aE (uG d) z z) (qz (.bool _) z (fK ?_)))))))))))))
 intro w b
 refine tn (bT z (wp_skip (bB (tn ?_))))
 cases c
 exact ⟨u,fy z,(aq (Pt h 0) g b.aG.aG.aG.aG.aG.aG.aG.aG z).ab.ab.cd⟩
}
}
}
}
 {
 intro d c
 refine go d (go d (go d (mb (aE d z z) (mb z (nt (bT z (ww (mb z (mb z (go d (go d (go d (go d (go d (gu (gu (gu (gu (gu (go d (mb (aE d z z) (mb z (nt (bT z (wp_seq ?_)))))))))))))))))))))))))
 obtain ⟨h8,h9,i0,i1,i2,i3,i4,i5,Z,e7⟩:=bc b
 replace Z:=dF Z
 subst Z
 have b:=e7
 refine dL b mixed (by kernel_rfl) (qz (.bool _) z (qz (.bool _) z (qz (.bool _) z (qg _ (rW d) (fun w b=>aO z underlying46 z sizeOf26 z) (qg _ (rW d) (fun w b=>ao z isAgg26 (b.bc8 z)) (qgz (Pt _ _) (rW d) z (qgz (Pt _ _) (rW d) z (qg _ (rW d) (fun w b=>aO z underlying111 z sizeOf26 z) (qg _ (rW d) (fun w b=>ao z isAgg26 (b.bc0 z)) (qgz (.bool _) (rW d) z (qh (.bool _) (fun w b=>aM (rW d) z z) (qz (.bool _) z (fK ?_)))))))))))))
 intro w b
 refine tn (bw c z ?_ ?_)
 {
 intro e8 c
 refine ww (mi z (nt (wp_ret (dj (aI ?_)))))
 replace c:=bg c u
 cases c
 exact aU [I6 9] results19 (rc z ah) ⟨_,z,m,(aJ (aq (Pt h 0) g b.aG.aG.aG.aG.aG.aG.aG.aG z)).bo⟩
}
 {
 intro e8 c
 refine wp_skip (bB (tn ?_))
 cases c
 exact ⟨u,fy z,(aq (Pt h 0) g b.aG.aG.aG.aG.aG.aG.aG.aG z).ab.ab.cd⟩
}
}
}
 {
 rintro _ i6 ⟨c,⟨i7,rfl⟩,b⟩
 dsimp only [ee] at c
 refine wp_seq ?_
 obtain ⟨i8,i9,e9,j0,j1,j2,j3,j4,b0,f0⟩:=bc b
 replace b0:=dF b0
 subst b0
 have b:=f0
 refine rg b 7 [0,1,3,7,0,31,63] [] mixed (sp 0 z z (sp 1 z z (sf 2 z z underlying111 z sizeOf103 (sl 3 z z isAgg103 (fun w b=>b.bc0 z) (sh _ 4 z (fun w b=>av (cs:=[U6 a1.ID.Session,U6 a1.ID.Seq,U6 a1.Epoch,i,j,k,l]) z isAgg46 sizeOf46 (b.wG 0 z)) (e1 5 z z fun w b=>?_))))))
 replace b:=b.ay
 obtain ⟨c4,f1,c⟩:=bn c
 refine wec call58 [e9,.agg #[U6 a1.ID.Session,U6 a1.ID.Seq,U6 a1.Epoch,i,j,k,l]] z z ((rR (D.mono (cy _)) (E.mono (cy _)) (F.mono (cy _)) (G.mono (cy _)) b.to1 f1).mono ?_)
 rintro _ j5 ⟨I454,rfl,f2,b⟩
 refine ⟨_,z,?_⟩
 replace b:=b.of1
 replace m:=m.trans f2
 refine w0n b (si 6 z z (bi ?_))
 intro w b
 refine tn (wp_ret ?_)
 cases c
 exact aU [I6 c4.1] results19 (rc z ah) ⟨_,z,m,(aJ (aq (Pt h 0) (({g with locks:=c4.2}:ae)) b.aG.aG.aG.aG.aG.aW.aG.aG z)).bo⟩
}
}
}
}
theorem mx {a0:(Option cO)} {p0:Value} {a1:Int} (b:St w0 w I [cE cI p0 a0] R) {r:(Int×Bool)} (c:gq a0 a1=some r) :
  Calls prog 146 #[p0,U6 a1] w fun e w'=>e = .returned (.tuple #[I6 r.1,.bool r.2])∧St w0 w' I [cE cI p0 a0] R:=by {
 rcases a0 with _ | j
 {
 dsimp only [gq] at c
 cases c
}
 {
 replace b:=bD b
 dsimp only [gq] at c
 refine c0 func146 z ntmps146 (ww ?_)
 obtain ⟨k,m,rfl,u⟩:=ef b
 have b:=u
 obtain ⟨g,U,v,x,b⟩:=b.box [Pt k 0] 101
 refine wa v x ?_
 obtain ⟨h,V,y,A,b⟩:=b.box [U6 a1] 26
 refine wa y A (mi z (mb z (nt (wp_seq (ww (ml z isAgg101 (b.bc1 z) (mk (.bool false) (nt (bT z (wp_skip (tn (ww (ml z isAgg101 (b.bc1 z) (mp z (mf z underlying201 z sizeOf199 (ml z isAgg199 (b.bc2 z) (mz (bW z underlying199 (b.pN 3 z)) (mk (.func (.func 198) #[] #[Pt g 0,Pt h 0]) ?_))))))))))))))))))
 obtain ⟨t,B,c⟩:=bn c
 refine de z z (dE call179 (caps:=[]) z (vs:=[I6 ((j.rows).length:Int),.func (.func 198) #[] #[Pt g 0,Pt h 0]]) z) (Calls.mono (show Calls prog 179 #[I6 ((j.rows).length:Int),.func (.func 198) #[] #[Pt g 0,Pt h 0]] _ (fun e w'=>∃ (p:Int),p=t∧e = .returned (.int .i64 p)∧St w0 w' I [cells k [m],ql cj m j.rows,cells g [Pt k 0],cells h [U6 a1]] R) from ?_) ?_)
 {
 clear c; have c:=B
 refine c0 func179 z ntmps179 (ww (mi z (nt (ww (mi z (mi z (mi z (nt (wp_seq (wp_block ?_))))))))))
 obtain ⟨C,c⟩:=aS c
 refine bf (fun n a w=>∃ (f:Int) (l:Int),cP (gH j a1) n (f,l)=some t∧fz 26 [1,5,6] [.func (.func 198) #[] #[Pt g 0,Pt h 0],I6 f,I6 l] a∧St w0 w I [cells h [U6 a1],cells g [Pt k 0],cells k [m],ql cj m j.rows] R) C ⟨0,((j.rows).length:Int),c,fy z,b⟩ ?_
 rintro W _ X ⟨f,l,c,⟨Y,rfl⟩,b⟩
 obtain ⟨Z,b0,rfl,c,q⟩:=aV c
 dsimp only [gH] at c
 refine wp_seq (ww (mi z (mi z (mb z (nt (bw c z ?_ ?_))))))
 {
 intro D c
 refine wp_skip (tn (wp_block (ww (mi z (mi z (mi z (mk (.int .u64 (u64.wrap (i64.wrap (f+l)))) (mi (tP (by decide) z z) (mk (.int .i64 (i64.wrap (iI .u64 (u64.wrap (i64.wrap (f+l))) 1))) (mi z (nt (ww (mv (.func (.func 198) #[] #[Pt g 0,Pt h 0]) z (mi z ?_))))))))))))))
 obtain ⟨E,F,c⟩:=bn c
 refine de z z (dE call198 (caps:=[Pt g 0,Pt h 0]) z (vs:=[I6 (i64.wrap (iI .u64 (u64.wrap (i64.wrap (f+l))) 1))]) z) (Calls.mono (show Calls prog 198 #[I6 (i64.wrap (iI .u64 (u64.wrap (i64.wrap (f+l))) 1)),Pt g 0,Pt h 0] _ (fun e w'=>∃ (s:Bool),s=E∧e = .returned (.bool s)∧St w0 w' I [cells k [m],ql cj m j.rows,cells g [Pt k 0],cells h [U6 a1]] R) from ?_) ?_)
 {
 clear c; have c:=F
 refine c0 func198 z ntmps198 (ww (mb z (nt (wp_seq (dL b mixed (by kernel_rfl) (qh _ (fun w b=>ao z isAgg101 (b.bc1 z)) (qz (Pt _ _) z (qh _ (fun w b=>aO z underlying201 z sizeOf199 z) (qh _ (fun w b=>ao z isAgg199 (b.bc2 z)) (qz (I6 _) z ?_))))))))))
 obtain ⟨G,H,c⟩:=bn c
 obtain ⟨J,K,L⟩:=aK H
 refine qh _ (fun w b=>az z z underlying199 sizeOf240 (b.pN 3 z) J K) (qh _ (fun w b=>aR z underlying240 z sizeOf26 z) (qh _ (fun w b=>ao z isAgg26 (b.Aa (N:=cj) (i:=(i64.wrap (iI .u64 (u64.wrap (i64.wrap (f+l))) 1)).toNat) (o:=0) 3 z L (fun _=>z))) (qh _ (fun w b=>ao z isAgg26 (b.bc0 z)) (qz (.bool _) z (qz (.bool _) z (fK ?_))))))
 intro w b
 refine tn (wp_ret (aU [.bool (decide (G.rank≥a1))] results198 (rc z ah) ?_))
 cases c
 exact ⟨_,z,z,b.ab.ap.ap.eF⟩
}
 rintro _ b1 ⟨s,rfl,rfl,b⟩
 refine ⟨_,z,?_⟩
 try dsimp only at c
 refine mb z (nt (bw c z ?_ ?_))
 {
 intro M c
 refine wrl (mi z (mi z (mi z (dk (bB (tn ?_))))))
 cases c
 exact ⟨_,nls,_,l,q,fy z,b.ab.ab.ay.ap.eF⟩
}
 {
 intro M c
 refine wrl (mi z (mi z (dk (bB (tn ?_)))))
 cases c
 exact ⟨_,nls,f,_,q,fy z,b.ab.ab.ay.ap.eF⟩
}
}
 {
 intro D c
 refine wp_exit (aQ (aQ ?_))
 replace c:=bg c q
 refine cZ (tn (ww (mi z (mi z (nt (wp_ret (aU [I6 f] results179 (rc z ah) ?_)))))))
 obtain rfl:=sj c
 exact ⟨f,z,z,b.ab.ap.ap.eF⟩
}
}
 rintro _ b2 ⟨p,rfl,rfl,b⟩
 refine ⟨_,z,?_⟩
 try dsimp only at c
 refine mi z (nt (wp_seq (dL b mixed (by kernel_rfl) (qz (I6 _) z (qz (I6 _) z (qh _ (fun w b=>ao z isAgg101 (b.bc2 z)) (qz (Pt _ _) z (qh _ (fun w b=>aO z underlying201 z sizeOf199 z) (qh _ (fun w b=>ao z isAgg199 (b.bc0 z)) (qh _ (fun w b=>bW z underlying199 (b.pN 1 z)) (qz (.bool _) z (qz (.bool _) z (bs c ?_ ?_)))))))))))))
 {
 intro d c
 refine qg _ d (fun w b=>ao z isAgg101 (b.bc2 z)) (qgz (Pt _ _) d z (qg _ d (fun w b=>aO z underlying201 z sizeOf199 z) (qg _ d (fun w b=>ao z isAgg199 (b.bc0 z)) (qgz (I6 _) d z ?_))))
 obtain ⟨O,P,c⟩:=bn c
 obtain ⟨Q,S,T⟩:=aK P
 refine qg _ d (fun w b=>az z z underlying199 sizeOf240 (b.pN 1 z) Q S) (qg _ d (fun w b=>aR z underlying240 z sizeOf26 z) (qg _ d (fun w b=>ao z isAgg26 (b.Aa (N:=cj) (i:=p.toNat) (o:=0) 1 z T (fun _=>z))) (qg _ d (fun w b=>ao z isAgg26 (b.bc3 z)) (qgz (.bool _) d z (qh (.bool _) (fun w b=>aM d z z) (qz (I6 _) z (qz (.bool _) z (fK ?_))))))))
 intro w b
 refine tn (wp_ret ?_)
 cases c
 exact aU [I6 p,.bool (O.rank==a1)] results146 (rc z (rc z ah)) ⟨z,(aJ (cM (Pt k 0) j b.ab.ab z)).bo⟩
}
 {
 intro d c
 refine qo d (qo d (qo d (qo d (qo d (qo d (qo d (qo d (qo d (qo d (qh (.bool _) (fun w b=>aE d z z) (qz (I6 _) z (qz (.bool _) z (fK ?_)))))))))))))
 intro w b
 refine tn (wp_ret ?_)
 cases c
 exact aU [I6 p,.bool false] results146 (rc z (rc z ah)) ⟨z,(aJ (cM (Pt k 0) j b.ab.ab z)).bo⟩
}
}
}
theorem th {a0:(List aT)} {k:Value} {a1:Int} (j:Rd cm R I k a0) (b:St w0 w I [] R) {r:(cp)} (c:od a0 a1=some r) :
  Calls prog 147 #[k,U6 a1] w fun e w'=>∃ (s:Value),e = .returned (.agg #[.bool r.Has,s])∧St w0 w' I [aZ (cg .u8) s r.Val] R:=by {
 unfold od at c
 refine c0 func147 z ntmps147 (ww ?_)
 have A:=(au j)
 obtain ⟨f,B,C,D,b⟩:=b.box [k] 238
 refine bY (v:=Pt f 0) (w':=B) z z (tO (by obtain ⟨_,_,hv_,_⟩:=A; rw [hv_]; kernel_rfl) C D) ?_
 obtain ⟨g,b4,E,F,b⟩:=b.box [U6 a1] 26
 refine wa E F ?_
 obtain ⟨m,b5,G,H,b⟩:=b.box [.bool false,Zs] 61
 refine wa G H (nt (ww (ml z isAgg238 (b.bc2 z) (mz (bW z underlying238 (au j)) (mk (.func (.func 199) #[] #[Pt f 0,Pt g 0]) ?_)))))
 obtain ⟨t,J,c⟩:=bn c
 refine de z z (dE call179 (caps:=[]) z (vs:=[I6 ((a0).length:Int),.func (.func 199) #[] #[Pt f 0,Pt g 0]]) z) (Calls.mono (show Calls prog 179 #[I6 ((a0).length:Int),.func (.func 199) #[] #[Pt f 0,Pt g 0]] _ (fun e w'=>∃ (o:Int),o=t∧e = .returned (.int .i64 o)∧St w0 w' I [cells f [k],cells g [U6 a1],cells m [.bool false,Zs]] R) from ?_) ?_)
 {
 clear c; have c:=J
 refine c0 func179 z ntmps179 (ww (mi z (nt (ww (mi z (mi z (mi z (nt (wp_seq (wp_block ?_))))))))))
 obtain ⟨K,c⟩:=aS c
 refine bf (fun n a w=>∃ (h:Int) (i:Int),cP (pg a0 a1) n (h,i)=some t∧fz 26 [1,5,6] [.func (.func 199) #[] #[Pt f 0,Pt g 0],I6 h,I6 i] a∧St w0 w I [cells m [.bool false,Zs],cells g [U6 a1],cells f [k]] R) K ⟨0,((a0).length:Int),c,fy z,b⟩ ?_
 rintro b6 _ b7 ⟨h,i,c,⟨b8,rfl⟩,b⟩
 obtain ⟨b9,c1,rfl,c,p⟩:=aV c
 dsimp only [pg] at c
 refine wp_seq (ww (mi z (mi z (mb z (nt (bw c z ?_ ?_))))))
 {
 intro L c
 refine wp_skip (tn (wp_block (ww (mi z (mi z (mi z (mk (.int .u64 (u64.wrap (i64.wrap (h+i)))) (mi (tP (by decide) z z) (mk (.int .i64 (i64.wrap (iI .u64 (u64.wrap (i64.wrap (h+i))) 1))) (mi z (nt (ww (mv (.func (.func 199) #[] #[Pt f 0,Pt g 0]) z (mi z ?_))))))))))))))
 obtain ⟨M,N,c⟩:=bn c
 refine de z z (dE call199 (caps:=[Pt f 0,Pt g 0]) z (vs:=[I6 (i64.wrap (iI .u64 (u64.wrap (i64.wrap (h+i))) 1))]) z) (Calls.mono (show Calls prog 199 #[I6 (i64.wrap (iI .u64 (u64.wrap (i64.wrap (h+i))) 1)),Pt f 0,Pt g 0] _ (fun e w'=>∃ (q:Bool),q=M∧e = .returned (.bool q)∧St w0 w' I [cells f [k],cells g [U6 a1],cells m [.bool false,Zs]] R) from ?_) ?_)
 {
 clear c; have c:=N
 refine c0 func199 z ntmps199 (ww (mb z (nt (wp_seq (dL b mixed (by kernel_rfl) (qh _ (fun w b=>ao z isAgg238 (b.bc2 z)) (qz (I6 _) z ?_)))))))
 obtain ⟨O,P,c⟩:=bn c
 obtain ⟨Q,S,T⟩:=aK P
 refine qh _ (fun w b=>az z z underlying238 sizeOf214 (au j) Q S) (qh _ (fun w b=>aR z underlying214 z sizeOf26 z) ?_)
 obtain ⟨c2,U,V⟩:=Rd.jV j T
 obtain ⟨c3,rfl,c4,-⟩:=U
 refine qh _ (fun w b=>ao z isAgg26 ((V lr b) 0 _ z)) (qh _ (fun w b=>ao z isAgg26 (b.bc1 z)) (qz (.bool _) z (qz (.bool _) z (fK ?_))))
 intro w b
 refine tn (wp_ret (aU [.bool (decide (O.Epoch>a1))] results199 (rc z ah) ?_))
 cases c
 exact ⟨_,z,z,b.ab.ay.dC⟩
}
 rintro _ c5 ⟨q,rfl,rfl,b⟩
 refine ⟨_,z,?_⟩
 try dsimp only at c
 refine mb z (nt (bw c z ?_ ?_))
 {
 intro W c
 refine wrl (mi z (mi z (mi z (dk (bB (tn ?_))))))
 cases c
 exact ⟨_,nls,_,i,p,fy z,b.ab.ay.dC⟩
}
 {
 intro W c
 refine wrl (mi z (mi z (dk (bB (tn ?_)))))
 cases c
 exact ⟨_,nls,h,_,p,fy z,b.ab.ay.dC⟩
}
}
 {
 intro L c
 refine wp_exit (aQ (aQ ?_))
 replace c:=bg c p
 refine cZ (tn (ww (mi z (mi z (nt (wp_ret (aU [I6 h] results179 (rc z ah) ?_)))))))
 obtain rfl:=sj c
 exact ⟨h,z,z,b.ab.ay.dC⟩
}
}
 rintro _ c6 ⟨o,rfl,rfl,b⟩
 refine ⟨_,z,?_⟩
 try dsimp only at c
 refine mi z (nt (wp_seq (ww (mi z (mb z (mb z (bs c ?_ ?_)))))))
 {
 intro d c
 refine go d (go d (go d (go d (go d (go d (mb (aM d z z) (nt (dq z (ww (mk (.agg #[.bool false,Zs]) ?_))))))))))
 replace b:=b.ay
 refine bxk b z sizeOf61 (oC z (oC z oN)) fun c7 b=>nt (wp_ret (aI ?_))
 replace b:=b.aX (cg .u8)
 cases c
 exact aU [.agg #[.bool false,Zs]] results147 (bj (bF (cs:=[.bool false,Zs]) z isAgg61 sizeOf61 (b.eI 0 z)) ah) ⟨(.slice none 0 0),z,b.bo⟩
}
 {
 intro d c
 refine gg d (ao z isAgg238 (b.bc0 z)) (gi d z (gi d z ?_))
 obtain ⟨c8,X,c⟩:=bn c
 obtain ⟨u,x,Y⟩:=aK X
 refine gg d (az z z underlying238 sizeOf214 (au j) u x) (gg d (aR z underlying214 z sizeOf4 z) ?_)
 obtain ⟨c9,Z,y⟩:=Rd.jV j Y
 obtain ⟨b0,rfl,b1,-⟩:=Z
 refine gg d (ao z isAgg4 ((y lr b) 2 _ z)) (mb (aE d z z) (nt (bw c z ?_ ?_)))
 {
 intro b2 c
 refine ww (mk (.agg #[.bool false,Zs]) ?_)
 replace b:=b.ay
 refine bxk b z sizeOf61 (oC z (oC z oN)) fun d0 b=>nt (wp_ret (aI ?_))
 replace b:=b.aX (cg .u8)
 cases c
 exact aU [.agg #[.bool false,Zs]] results147 (bj (bF (cs:=[.bool false,Zs]) z isAgg61 sizeOf61 (b.eI 0 z)) ah) ⟨(.slice none 0 0),z,b.bo⟩
}
 {
 intro b2 c
 refine wp_skip (tn (ww (ml z isAgg238 (b.bc0 z) (mi z (mi z (mz (az z z underlying238 sizeOf214 (au j) u x) (mz (aR z underlying214 z sizeOf22 z) (ml z isAgg22 ((y lr b) 3 _ z) ?_))))))))
 obtain ⟨d1,b3,c⟩:=bn c
 refine wc call143 [b0] z z z (kcb (jg (b1.mono (cy _)) b.to0 b3) fun l d2 b=>?_)
 replace b:=b.of1
 refine wv (.agg #[.bool true,l]) z z (by obtain ⟨_,_,hv_,_⟩:=b.sv0; rw [hv_]; kernel_rfl) ?_
 replace b:=b.ap
 refine bxk b z sizeOf61 (oC z (oC (oS b.sv1) oN)) fun d3 b=>nt (wp_ret ?_)
 cases c
 exact aU [.agg #[.bool true,l]] results147 (bj (bF (cs:=[.bool true,l]) z isAgg61 sizeOf61 (b.eD 0 z)) ah) ⟨l,z,b.ab.bo⟩
}
}
}
theorem mZ {a0:(Option cO)} {p0:Value} {a1:Nat} {a2:Int} (a:St w0 w I [cE cI p0 a0] R) {r:(cp)} (b:dW a0 a1 a2=some r) :
  Calls prog 60 #[p0,F6 a1,U6 a2] w fun e w'=>∃ (g:Value),e = .returned (.agg #[.bool r.Has,g])∧St w0 w' I [aZ (cg .u8) g r.Val,cE cI p0 a0] R:=by {
 rcases a0 with _ | k
 {
 dsimp only [dW] at b
 cases b
}
 {
 replace a:=bD a
 dsimp only [dW] at b
 refine c0 func60 z ntmps60 (ww ?_)
 obtain ⟨B,C,l,m,a⟩:=a.box [.bool false,Zs] 61
 refine wa l m (nt (ww (mv (p0) z (mv (F6 _) z ?_))))
 obtain ⟨n,o,b⟩:=bn b
 refine wc call118 [F6 a1] z z z (kca (ez a.to0 o) fun D a=>?_)
 replace a:=aJ a.of0.ab
 obtain ⟨c,p,b⟩:=bn b
 refine wc call146 [p0,U6 n] z z z (kca (mx a.to1 p) fun E a=>?_)
 replace a:=bD a.of1
 refine mv (.tuple #[I6 c.1,.bool c.2]) z (mi z (mb z (mi z (mb z (nt (wp_seq (ww (mb z (mb z (nt (bw b z ?_ ?_)))))))))))
 {
 intro q b
 refine ww (mk (.agg #[.bool false,Zs]) ?_)
 replace a:=a.ab
 refine bxk a z sizeOf61 (oC z (oC z oN)) fun F a=>nt (wp_ret (aI ?_))
 replace a:=aJ ((a.aX (cg .u8)).ay)
 cases b
 exact aU [.agg #[.bool false,Zs]] results60 (bj (bF (cs:=[.bool false,Zs]) z isAgg61 sizeOf61 (a.pQ 0 z)) ah) ⟨(.slice none 0 0),z,a.ab.cd⟩
}
 {
 intro q b
 refine wp_skip (tn (ww (mv (p0) z ?_)))
 obtain ⟨s,G,rfl,t⟩:=ef a
 have a:=t
 refine mp z (mf z underlying201 z sizeOf199 (ml z isAgg199 (a.bc0 z) (mi z ?_)))
 obtain ⟨H,u,b⟩:=bn b
 obtain ⟨v,x,d⟩:=aK u
 refine mz (az z z underlying199 sizeOf240 (a.pN 1 z) v x) (mz (aR z underlying240 z sizeOf238 z) ?_)
 replace a:=a.ab
 obtain ⟨y,a⟩:=a.tL d
 refine ml z isAgg238 ((a.xt (N:=cj) (i:=c.1.toNat) 1 z d) 1 _ z) (mi z ?_)
 obtain ⟨J,h,a⟩:=a.cx
 obtain ⟨j,A,b⟩:=bn b
 refine wc call147 [y,U6 a2] z z z (kcb (th (a.nf h) a.to0 A) fun f K a=>?_)
 replace a:=(a.of1.ab.ba h).aY
 refine bxk a z sizeOf61 (oC z (oC (oS a.sv2) oN)) fun L a=>nt (wp_ret ?_)
 replace a:=aJ (cM (Pt s 0) k (St.rM (N:=cj) a.ap.ay d).ap z)
 obtain rfl:=sj b
 exact aU [.agg #[.bool j.Has,f]] results60 (bj (bF (cs:=[.bool j.Has,f]) z isAgg61 sizeOf61 (a.eI 0 z)) ah) ⟨f,z,a.ay.cd⟩
}
}
}
theorem uS {a0:Int} (b:St w0 w I [] R) {r:(Nat)} (a:jz a0=some r) :
  Calls prog 107 #[U6 a0] w fun e w'=>e = .returned (.float .f64 r)∧St w0 w' I [] R:=by {
 unfold jz at a
 refine c0 func107 z ntmps107 (ww (mv (F6 _) z (nt (wp_seq (ww (mi z (mi (tP (by decide) z z) (mb z (nt (bw a z ?_ ?_))))))))))
 {
 intro c a
 refine ww (mi z (mi z (mk (.float .f64 (Int.toNat (tU .u64 a0 9223372036854775808))) (mv (F6 _) z (nt (wp_ret (aI ?_)))))))
 cases a
 exact aU [F6 (Int.toNat (tU .u64 a0 9223372036854775808))] results107 (rc z ah) ⟨z,b.bQ⟩
}
 {
 intro c a
 refine wp_skip (tn (ww (mi z (mk (.int .u64 (xz .u64 ((18446744073709551615):Int) a0)) (mk (.float .f64 (Int.toNat (xz .u64 ((18446744073709551615):Int) a0))) (mv (F6 _) z (nt (wp_ret ?_))))))))
 cases a
 exact aU [F6 (Int.toNat (xz .u64 ((18446744073709551615):Int) a0))] results107 (rc z ah) ⟨z,b.bQ⟩
}
}
theorem sU {a0:(Option cO)} {p0:Value} {a1 a2:Nat} {a3 a4:Int} (b:St w0 w I [cE cI p0 a0] R) {r:((List bM))} (c:ft a0 a1 a2 a3 a4=some r) :
  Calls prog 77 #[p0,F6 a1,F6 a2,U6 a3,I6 a4] w fun e w'=>∃ (I':HL) (C:Value),e = .returned (C)∧I.le I'∧St w0 w' I' [aZ aw C r,cE cI p0 a0] R:=by {
 rcases a0 with _ | j
 {
 dsimp only [ft] at c
 cases c
}
 {
 replace b:=bD b
 dsimp only [ft] at c
 refine c0 func77 z ntmps77 ?_
 have m:=HL.le.refl I
 refine ww (mv ((.slice none 0 0)) z (nt (wp_seq (ww (mv (p0) z ?_)))))
 obtain ⟨h,b9,rfl,J⟩:=ef b
 have b:=J
 refine mk (.bool false) (nt (bT z (wp_skip (tn (ww (mv ((.slice none 0 0)) z (nt (wp_seq (ww (mp z (mv (F6 _) z ?_)))))))))))
 obtain ⟨K,L,c⟩:=bn c
 refine wc call118 [F6 a1] z z z (kca (ez b.to0 L) fun c1 b=>?_)
 replace b:=aJ (cM (Pt h 0) j b.of0.ab.ab z)
 obtain ⟨y,M,c⟩:=bn c
 refine wc call146 [Pt h 0,U6 K] z z z (kca (mx b.to1 M) fun c2 b=>?_)
 replace b:=bD b.of1
 refine mv (.tuple #[I6 y.1,.bool y.2]) z (mi z (mb z (mi z (mb z (nt (wp_block ?_))))))
 replace b:=b.aX aw
 obtain ⟨O,c⟩:=aS c
 refine bf (fun n a w=>∃ (I823:HL) (p:(List bM)) (k:Int) (f:Value),cP (gI j a2 a4 a3) n (p,k)=some r∧fz 80 [0,2,3,4,11,12] [Pt h 0,F6 a2,U6 a3,I6 a4,f,I6 k] a∧I.le I823∧St w0 w I823 [aZ aw f p,cI (Pt h 0) j] R) O ⟨_,[],y.1,Zs,c,fy z,lr,b⟩ ?_
 rintro c3 _ c4 ⟨I823,p,k,f,c,⟨c5,rfl⟩,q,b⟩
 obtain ⟨c6,c7,rfl,c,s⟩:=aV c
 dsimp only [gI] at c
 replace m:=m.trans q
 refine wp_seq (wp_seq ?_)
 obtain ⟨c8,c9,A,P⟩:=ef b.ab
 replace A:=dF A
 subst A
 have b:=P
 refine rg b 26 [0,0,2,6,14,30,63,127,255,511,1023,2047,255,8191,16383,32767,255,65791,262143,524287,1048575,2097151,4194303,2097151,16777215,33554431] [] mixed (si 0 z z (sp 1 z z (sp 2 z z (sf 3 z z underlying201 z sizeOf199 (sl 4 z z isAgg199 (fun w b=>b.bc0 z) (sh _ 5 z (fun w b=>bW z underlying199 (b.pN 1 z)) (sb 6 z z (sb 7 z z (bs c ?_ ?_)))))))))
 {
 intro d c
 refine sgz (Pt _ _) 8 z d z (sgz (Pt _ _) 9 z d z (sg _ 10 z d (fun w b=>aO z underlying201 z sizeOf199 z) (sg _ 11 z d (fun w b=>ao z isAgg199 (b.bc0 z)) (sgz (I6 _) 12 z d z ?_))))
 obtain ⟨Q,S,c⟩:=bn c
 obtain ⟨t,u,l⟩:=aK S
 refine sg _ 13 z d (fun w b=>az z z underlying199 sizeOf240 (b.pN 1 z) t u) (sg _ 14 z d (fun w b=>aR z underlying240 z sizeOf26 z) (sg _ 15 z d (fun w b=>ao z isAgg26 (b.Aa (N:=cj) (i:=k.toNat) (o:=0) 1 z l (fun _=>z))) (sgz (F6 _) 16 z d z (ia 17 (by kernel_rfl) (nxe [18,19,20,21,22,23,24,25] (by kernel_rfl) z ((ar z z z (cvb d)).trans z) ?_)))))
 clear b
 intro w b
 obtain ⟨d0,T,c⟩:=bn c
 refine wec call118 [F6 a2] z z (kca (ez b.to0 T) fun d1 b=>?_)
 replace b:=b.of0
 refine wn [15,14,13,12,11,10,9,8] b (cX z (cT ((ar z z z (cvb d)).trans z) (fun w b=>ao z isAgg26 (b.Aa (N:=cj) (i:=k.toNat) (o:=0) 1 z l (fun _=>z)))) (cX z (cT ((ar z z z (cvb d)).trans z) (fun w b=>aR z underlying240 z sizeOf26 z)) (cX z (cT ((ar z z z (cvb d)).trans z) (fun w b=>az z z underlying199 sizeOf240 (b.pN 1 z) t u)) (cX z (cT ((ar z z z (cvb d)).trans z) (fun w b=>z)) (cX z (cT ((ar z z z (cvb d)).trans z) (fun w b=>ao z isAgg199 (b.bc0 z))) (cX z (cT ((ar z z z (cvb d)).trans z) (fun w b=>aO z underlying201 z sizeOf199 z)) (cX z (cT ((ar z z z (cvb d)).trans z) (fun w b=>z)) (cX z (cT ((ar z z z (cvb d)).trans z) (fun w b=>z)) bu)))))))) (sgz (.bool _) 18 z d z (sh (.bool _) 19 z (fun w b=>aM d z z) (sb 20 z z (bs c ?_ ?_))))
 {
 intro g c
 refine sgz f 21 z g z (sg _ 22 z g (fun w b=>bW z underlying81 b.sv2) (sgz (I6 _) 23 z g z (sgz (.bool _) 24 z g z (sh (.bool _) 25 z (fun w b=>aM g z z) (bi ?_)))))
 intro w b
 refine tn (bw c z ?_ ?_)
 {
 intro U c
 refine wp_skip (tn (wp_seq (wp_block (ww (mp z (mp z (mf z underlying201 z sizeOf199 (ml z isAgg199 (b.bc0 z) (mi z (mz (az z z underlying199 sizeOf240 (b.pN 1 z) t u) (mz (aR z underlying240 z sizeOf238 z) ?_)))))))))))
 replace b:=b.ab
 obtain ⟨V,b⟩:=b.tL l
 refine ml z isAgg238 ((b.xt (N:=cj) (i:=k.toNat) 1 z l) 1 _ z) (mi z ?_)
 obtain ⟨d2,D,b⟩:=b.cx
 obtain ⟨F,W,c⟩:=bn c
 refine wc call147 [V,U6 a3] z z z (kcb (th (b.nf D) b.to0 W) fun G d3 b=>?_)
 replace b:=b.of1.ab.ba D
 obtain ⟨d4,d5,X,Y,b⟩:=b.box [.bool false,Zs] 61
 refine wa X Y (bxk b z sizeOf61 (oC z (oC (oS b.sv2) oN)) fun d6 b=>nt (ww (mf z underlying61 z sizeOf4 (ml z isAgg4 (b.bc0 z) (nt (bw c z ?_ ?_))))))
 {
 intro Z c
 refine rg b 16 [0,0,2,6,14,0,62,126,254,510,0,1024,4094,8190,16383,32767] [15] mixed (sz (f) 0 z z (sp 1 z z (sp 2 z z (sf 3 z z underlying201 z sizeOf199 (sl 4 z z isAgg199 (fun w b=>b.bc4 z) (si 5 z z (sh _ 6 z (fun w b=>az z z underlying199 sizeOf240 (b.BD 3 z) t u) (sh _ 7 z (fun w b=>aR z underlying240 z sizeOf26 z) (sl 8 z z isAgg26 (fun w b=>b.Fx (N:=cj) (i:=k.toNat) (o:=0) 3 z l (fun _=>z)) (sf 10 z z underlying61 z sizeOf22 (sl 11 z z isAgg22 (fun w b=>b.bc0 z) (e1 9 z z fun w b=>?_))))))))))))
 obtain ⟨x,b0,c⟩:=bn c
 refine wec call107 [U6 Q.rank] z z (kca (uS b.to0 b0) fun d7 b=>?_)
 replace b:=b.of0
 refine wn [11,10,0] b (pkr z z (fun w b=>ao z isAgg22 (b.bc0 z)) (pf z z underlying61 z sizeOf22 (pz bu))) (wsr (.agg #[F6 x,G]) 12 rfl rfl rfl (by kernel_rfl) (fun w b=>by obtain ⟨_,_,hv_,_⟩:=b.sv2; rw [hv_]; kernel_rfl) (e1 13 z z fun w b=>?_))
 replace b:=b.ay
 obtain ⟨I876,b1,H,b⟩:=b.cK
 replace q:=q.trans b1
 obtain ⟨b2,b3,b4,b5,b⟩:=b.er (E:=aw) (xs:=[({At:=x,Val:=F.Val}:bM)]) [[F6 x,G]] 152 1 z (bz.cons ⟨_,z,H,oS (ag H)⟩ bz.nil)
 refine bS (v:=(.slice (some ⟨b2,0,none⟩) 1 1)) (w':=b3) z (di (by kernel_rfl) b4 b5) (wn [0] b (pz bu) (e1 14 z z fun w b=>?_))
 obtain ⟨b6,c⟩:=cw c
 replace b:=b.aW
 obtain ⟨B,b7,b8,b⟩:=bE ya underlying81 b b.jr (cF b6 z) 81
 refine bS (v:=B) (w':=b7) z (bU z z b8) (w0n b (e1 15 z z fun w b=>bS (v:=B) (w':=w) z z (w0n b (bi ?_))))
 intro w b
 refine bB (tn (wrl (mi z (mi z (mi z (nt ?_))))))
 cases c
 exact ⟨_,nls,_,(p++([({At:=x,Val:=F.Val}:bM)])),_,B,s,fy z,q,(cM (Pt h 0) j (St.rM (N:=cj) b.aY.aY l).aY z).ab.cd⟩
}
 {
 intro Z c
 refine wp_skip (bB (tn (wrl (mi z (mi z (mi z (nt ?_)))))))
 cases c
 exact ⟨_,nls,_,p,_,f,s,fy z,q,(cM (Pt h 0) j (St.rM (N:=cj) b.ap.ay l).ap z).ap.cd⟩
}
}
 {
 intro U c
 refine wp_exit (aQ (aQ ?_))
 replace c:=bg c s
 refine cZ (tn (ww (mv (f) z (mv (f) z (nt (wp_ret ?_))))))
 cases c
 exact aU [f] results77 (rc z ah) ⟨_,f,z,m,(aJ (cM (Pt h 0) j b.ab.ab z)).ab.cd⟩
}
}
 {
 intro g c
 refine so 21 z g (so 22 z g (so 23 z g (so 24 z g (sh (.bool _) 25 z (fun w b=>aE g z z) (bi ?_)))))
 intro w b
 refine tn (bT z (wp_exit (aQ (aQ ?_))))
 replace c:=bg c s
 refine cZ (tn (ww (mv (f) z (mv (f) z (nt (wp_ret ?_))))))
 cases c
 exact aU [f] results77 (rc z ah) ⟨_,f,z,m,(aJ (cM (Pt h 0) j b.ab.ab z)).ab.cd⟩
}
}
 {
 intro d c
 refine so 8 z d (so 9 z d (so 10 z d (so 11 z d (so 12 z d (so 13 z d (so 14 z d (so 15 z d (so 16 z d (so 17 z d (so 18 z d (sh (.bool _) 19 z (fun w b=>aE d z z) (sb 20 z z (sq 21 z (sq 22 z (sq 23 z (sq 24 z (sh (.bool _) 25 z (fun w b=>aE z z z) (bi ?_))))))))))))))))))
 intro w b
 refine tn (bT z (wp_exit (aQ (aQ ?_))))
 replace c:=bg c s
 refine cZ (tn (ww (mv (f) z (mv (f) z (nt (wp_ret ?_))))))
 cases c
 exact aU [f] results77 (rc z ah) ⟨_,f,z,m,(aJ (cM (Pt h 0) j b.ab.ab z)).ab.cd⟩
}
}
}
theorem sX {a0:(Option ae)} {p0:Value} {a1:al} {l m q s:Value} (t:Rd bV R I l a1.Gets) (h:Rd gn R I m a1.Scans) (f9:Rd bV R I q a1.Puts) (g0:Rd (cg .u8) R I s a1.Data) (b:St w0 w I [cE aD p0 a0] R) {r:(bp)} (c:jv a0 a1=some r) :
  Calls prog 33 #[p0,.agg #[U6 a1.ID.Session,U6 a1.ID.Seq,U6 a1.Epoch,l,m,q,s]] w fun e w'=>∃ (I':HL) (Q:Value) (S:Value),e = .returned (.agg #[I6 r.E,U6 r.Epoch,U6 r.Index,Q,S])∧I.le I'∧St w0 w' I' [aZ aA Q r.Gots,aZ (dG aw) S r.Scans,cE aD p0 a0] R:=by {
 rcases a0 with _ | d
 {
 dsimp only [jv] at c
 cases c
}
 {
 replace b:=bD b
 dsimp only [jv] at c
 refine c0 func33 z ntmps33 ?_
 have u:=HL.le.refl I
 refine ww ?_
 obtain ⟨B,g1,Y,Z,b⟩:=b.box [U6 a1.ID.Session,U6 a1.ID.Seq,U6 a1.Epoch,l,m,q,s] 46
 refine wa Y Z ?_
 obtain ⟨o,g2,b0,b1,b⟩:=b.box [Zi,Zu,Zu,Zs,Zs] 33
 refine wa b0 b1 (nt (ww ?_))
 obtain ⟨p,g3,b2,b3,b⟩:=b.box [Zi,Zu,Zu,Zs,Zs] 33
 refine wa b2 b3 (nt (wp_seq (ww (mv (p0) z ?_))))
 obtain ⟨f,g4,g5,g6,g7,g8,g9,h0,rfl,b4⟩:=bc b.ap
 have b:=b4
 refine mk (.bool false) (nt (bT z (wp_skip (tn ?_))))
 obtain ⟨b5,c,b6⟩:=bn c
 refine cQ (fun a w=>∃ (I820:HL) (x:(List cp)) (g:Value),(kE a1 d) x=some r∧fz 55 [0,3,4,5] [Pt f 0,Pt B 0,Pt o 0,Pt p 0] a∧I.le I820∧St w0 w I820 [aD (Pt f 0) d,cells B [U6 a1.ID.Session,U6 a1.ID.Seq,U6 a1.Epoch,l,m,q,s],cells o [Zi,Zu,Zu,Zs,Zs],cells p [Zi,Zu,Zu,g,Zs],aZ aA g x] R) ?_ ?_
 {
 have G:=HL.le.refl I
 refine ww (mf z underlying46 z sizeOf43 (ml z isAgg43 (b.uz z) (mz (bW z underlying43 (au t)) (mi z (nt (wp_block ?_))))))
 replace b:=(aq (Pt f 0) d b.aG.aG.aG.aG.aG.aG.aG.aG z).aX aA
 obtain ⟨b7,c⟩:=aS c
 refine bf (fun n a w=>∃ (I763:HL) (y:(List cp)) (H:Int) (C:Value),cP (gQ a1 d) n (y,H)=some b5∧fz 55 [0,3,4,5,14,15,16] [Pt f 0,Pt B 0,Pt o 0,Pt p 0,l,I6 ((a1.Gets).length:Int),I6 H] a∧I.le I763∧St w0 w I763 [aZ aA C y,aD (Pt f 0) d,cells p [Zi,Zu,Zu,C,Zs],cells o [Zi,Zu,Zu,Zs,Zs],cells B [U6 a1.ID.Session,U6 a1.ID.Seq,U6 a1.Epoch,l,m,q,s]] R) b7 ⟨_,[],0,Zs,c,fy z,lr,b⟩ ?_
 rintro h1 _ h2 ⟨I763,y,H,C,c,⟨h3,rfl⟩,A,b⟩
 obtain ⟨h4,h5,rfl,c,T⟩:=aV c
 dsimp only [gQ] at c
 replace t:=t.mono (nj A)
 replace G:=G.trans A
 refine ww (mb z (nt (wp_seq (bw c z ?_ ?_))))
 {
 intro b8 c
 refine wp_skip (tn (wp_seq (wp_block (ww ?_))))
 obtain ⟨b9,c1,c⟩:=bn c
 obtain ⟨c2,c3,c4⟩:=aK c1
 refine mz (az z z underlying43 sizeOf37 (au t) c2 c3) (ml z isAgg37 (dR t lr b c4 (by rintro _ rfl; rfl)) (mv (F6 _) z (nt ?_)))
 obtain ⟨h6,c5,h7,h8,h9,i0,i1,i2,J,c6⟩:=bc b.ab
 replace J:=dF J
 subst J
 have b:=c6
 refine rg b 12 [0,1,0,4,12,28,0,124,252,511,1023,2047] [] mixed (sf 0 z z underlying33 z sizeOf30 (sl 1 z z isAgg30 (fun w b=>b.bc9 z) (sp 2 z z (sp 3 z z (sf 4 z z underlying111 z sizeOf101 (sl 5 z z isAgg101 (fun w b=>b.bc0 z) (sz (F6 _) 6 z z (e1 7 z z fun w b=>?_))))))))
 replace b:=b.ab
 obtain ⟨K,c7,c⟩:=bn c
 refine wec call60 [c5,F6 b9,U6 18446744073709551615] z z (kcb (mZ b.to1 c7) fun c8 i3 b=>?_)
 replace b:=b.of2
 refine wn [1,0] b (pkr z z (fun w b=>ao z isAgg30 (b.uz z)) (pf z z underlying33 z sizeOf30 bu)) (e1 8 z z fun w b=>?_)
 obtain ⟨I802,c9,U,b⟩:=b.cK
 replace A:=A.trans c9
 obtain ⟨d0,d1,d2,d3,b⟩:=b.er (E:=aA) (xs:=[K]) [[.bool K.Has,c8]] 61 1 z (bz.cons ⟨_,z,U,oS (ag U)⟩ bz.nil)
 refine bS (v:=(.slice (some ⟨d0,0,none⟩) 1 1)) (w':=d1) z (di (by kernel_rfl) d2 d3) (wn [1,0] b (pkr z z (fun w b=>ao z isAgg30 (b.uz z)) (pf z z underlying33 z sizeOf30 bu)) (e1 9 z z fun w b=>?_))
 obtain ⟨d4,c⟩:=cw c
 replace b:=b.bO
 obtain ⟨L,d5,d6,b⟩:=bE xM underlying30 b b.jr (cF d4 z) 30
 refine bS (v:=L) (w':=d5) z (bU z z d6) (w0n b (sf 10 z z underlying33 z sizeOf30 (e1 11 z z fun w b=>?_)))
 replace b:=b.bq
 refine b1e L b z (oS b.sv1) sizeOf30 fun i4 b=>w0n b (bi ?_)
 intro w b
 refine bB (tn (wrl (mi z (mi z (nt ?_)))))
 cases c
 exact ⟨_,nls,_,(y++([K])),_,L,T,fy z,A,(aq (Pt f 0) d b.bq.bq.bq.bq.bq.bq.bO.bq z).aW.aW.ap.ap.aY.oT⟩
}
 {
 intro b8 c
 refine wp_exit (aQ (aQ ?_))
 replace c:=bg c T
 refine cZ (tn ?_)
 obtain rfl:=sj c
 exact ⟨_,y,C,b6,fy z,G,b.ay.ap.aY.aY.oT⟩
}
}
 {
 rintro _ i5 ⟨I820,x,g,c,⟨i6,rfl⟩,V,b⟩
 dsimp only [kE] at c
 replace h:=h.mono (nj V)
 replace u:=u.trans V
 refine wp_seq (ww (mf z underlying46 z sizeOf44 (ml z isAgg44 (b.bc1 z) (mz (bW z underlying44 (au h)) (mi z (nt (wp_block ?_)))))))
 replace b:=b.ab.sub.aX (dG aw)
 obtain ⟨d7,c⟩:=aS c
 refine bf (fun n a w=>∃ (I991:HL) (D:(List (List bM))) (M:Int) (j:Value),cP (fE a1 d x) n (D,M)=some r∧fz 55 [0,4,5,33,34,35] [Pt f 0,Pt o 0,Pt p 0,m,I6 ((a1.Scans).length:Int),I6 M] a∧I820.le I991∧St w0 w I991 [aZ (dG aw) j D,aD (Pt f 0) d,cells o [Zi,Zu,Zu,Zs,Zs],cells p [Zi,Zu,Zu,g,j],aZ aA g x] R) d7 ⟨_,[],0,Zs,c,fy z,lr,b⟩ ?_
 rintro i7 _ i8 ⟨I991,D,M,j,c,⟨i9,rfl⟩,k,b⟩
 obtain ⟨j0,j1,rfl,c,W⟩:=aV c
 dsimp only [fE] at c
 replace h:=h.mono (nj k)
 replace u:=u.trans k
 refine ww (mb z (nt (wp_seq (bw c z ?_ ?_))))
 {
 intro d8 c
 refine wp_skip (tn (wp_seq (wp_block (ww ?_))))
 obtain ⟨F,d9,c⟩:=bn c
 obtain ⟨e0,e2,e3⟩:=aK d9
 refine mz (az z z underlying44 sizeOf80 (au h) e0 e2) (mz (av (cs:=[F6 F.1,F6 F.2]) z isAgg80 sizeOf80 (pH h lr b e3 0 (by rintro _ rfl; rfl))) ?_)
 obtain ⟨j2,j3,e4,e5,b⟩:=b.box [Zf,Zf] 80
 refine wa e4 e5 (bxk b z sizeOf80 (oC z (oC z oN)) fun j4 b=>nt ?_)
 obtain ⟨j5,e6,j6,j7,j8,j9,k0,k1,N,e7⟩:=bc b.ay
 replace N:=dF N
 subst N
 have b:=e7
 refine rg b 15 [0,1,0,4,12,28,0,64,0,256,1020,2044,4095,8191,16383] [] mixed (sf 0 z z underlying33 z sizeOf31 (sl 1 z z isAgg31 (fun w b=>b.FG z) (sp 2 z z (sp 3 z z (sf 4 z z underlying111 z sizeOf101 (sl 5 z z isAgg101 (fun w b=>b.bc0 z) (sh (Pt _ _) 6 z (fun w b=>kx (i:=0) z z underlying80 sizeOf37 (by decide) (by decide)) (sl 7 z z isAgg37 (fun w b=>b.bc8 z) (sh (Pt _ _) 8 z (fun w b=>kx (i:=1) z z underlying80 sizeOf37 (by decide) (by decide)) (sl 9 z z isAgg37 (fun w b=>b.bc8 z) (e1 10 z z fun w b=>?_)))))))))))
 replace b:=b.ab
 obtain ⟨X,e8,c⟩:=bn c
 refine wec call77 [e6,F6 F.1,F6 F.2,U6 18446744073709551615,I6 64] z z ((sU b.to1 e8).mono ?_)
 rintro _ k2 ⟨I1032,e9,rfl,f0,b⟩
 refine ⟨_,z,?_⟩
 replace b:=b.of2
 replace k:=k.trans f0
 refine wn [1,0] b (pkr z z (fun w b=>ao z isAgg31 (b.Fw z)) (pf z z underlying33 z sizeOf31 bu)) (e1 11 z z fun w b=>?_)
 obtain ⟨I1037,f1,O,b⟩:=b.cK
 replace k:=k.trans f1
 obtain ⟨f2,f3,f4,f5,b⟩:=b.er (E:=(dG aw)) (xs:=[X]) [[e9]] 81 1 z (bz.cons ⟨_,z,O,oS (ag O)⟩ bz.nil)
 refine bS (v:=(.slice (some ⟨f2,0,none⟩) 1 1)) (w':=f3) z (di (by obtain ⟨_,_,hv_,_⟩:=(ag O); rw [hv_]; kernel_rfl) f4 f5) (wn [1,0] b (pkr z z (fun w b=>ao z isAgg31 (b.Fw z)) (pf z z underlying33 z sizeOf31 bu)) (e1 12 z z fun w b=>?_))
 obtain ⟨f6,c⟩:=cw c
 replace b:=b.bq
 obtain ⟨P,f7,f8,b⟩:=bE xU underlying31 b b.jr (cF f6 z) 31
 refine bS (v:=P) (w':=f7) z (bU z z f8) (w0n b (sf 13 z z underlying33 z sizeOf31 (e1 14 z z fun w b=>?_)))
 replace b:=b.nz
 refine b1e P b z (oS b.sv1) sizeOf31 fun k3 b=>w0n b (bi ?_)
 intro w b
 refine bB (tn (wrl (mi z (mi z (nt ?_)))))
 cases c
 exact ⟨_,nls,_,(D++([X])),_,P,W,fy z,k,(aq (Pt f 0) d b.bq.bq.bq.bq.bq.bq.bO.bq z).cV.ay.cV.ap.aY.oT⟩
}
 {
 intro d8 c
 refine wp_exit (aQ (aQ ?_))
 replace c:=bg c W
 refine cZ (tn (ww (mz (av (cs:=[Zi,Zu,Zu,g,j]) z isAgg33 sizeOf33 (b.rU 0 z)) ?_)))
 replace b:=b.ay
 refine bxk b z sizeOf33 (oJ 3 z (oC (oS b.sv4) (oC (oS b.sv1) oN))) fun k4 b=>nt (wp_ret ?_)
 replace b:=aJ b.ay
 cases c
 exact aU [.agg #[Zi,Zu,Zu,g,j]] results33 (bj (bF (cs:=[Zi,Zu,Zu,g,j]) z isAgg33 sizeOf33 (b.eI 0 z)) ah) ⟨_,g,j,z,u,b.ay.aY.dC⟩
}
}
}
}
theorem qU {a0:(Option ae)} {p0:Value} {a1:aC} {d f g h s t u v:Value} (m:Rd bV R I d a1.Hold.Gets) (n:Rd gn R I f a1.Hold.Scans) (o:Rd bV R I g a1.Hold.Puts) (p:Rd (cg .u8) R I h a1.Hold.Data) (M:Rd cG R I s a1.Writes) (N:Rd aA R I t a1.R.Gots) (O:Rd (dG aw) R I u a1.R.Scans) (P:Rd cJ R I v a1.Parts) (a:St w0 w I [cE aD p0 a0] R) {r:(bh×(Option ae))} (c:je a0 a1=some r) :
  Calls prog 48 #[p0,.agg #[U1 a1.Kind,U6 a1.ID.Session,U6 a1.ID.Seq,U6 a1.Epoch,U6 a1.Index,I6 a1.E,U6 a1.Hold.ID.Session,U6 a1.Hold.ID.Seq,U6 a1.Hold.Epoch,d,f,g,h,s,I6 a1.R.E,U6 a1.R.Epoch,U6 a1.R.Index,t,u,U6 a1.Shards,v,U6 a1.Rule.ID,I6 a1.Rule.From,I6 a1.Rule.To,F6 a1.Rule.Lo,F6 a1.Rule.Hi,U6 a1.Rule.Authority,I6 a1.Rule.Quota,.bool a1.On]] w fun e w'=>∃ (I':HL) (x:Value) (y:Value),e = .returned (.agg #[U1 r.1.Kind,U6 r.1.ID.Session,U6 r.1.ID.Seq,I6 r.1.R.E,U6 r.1.R.Epoch,U6 r.1.R.Index,x,y])∧I.le I'∧St w0 w' I' [aZ aA x r.1.R.Gots,aZ (dG aw) y r.1.R.Scans,cE aD p0 r.2] R:=by {
 unfold je at c
 refine c0 func48 z ntmps48 ?_
 have i:=HL.le.refl I
 refine ww ?_
 obtain ⟨Q,S,A,B,a⟩:=a.box [U1 a1.Kind,U6 a1.ID.Session,U6 a1.ID.Seq,U6 a1.Epoch,U6 a1.Index,I6 a1.E,U6 a1.Hold.ID.Session,U6 a1.Hold.ID.Seq,U6 a1.Hold.Epoch,d,f,g,h,s,I6 a1.R.E,U6 a1.R.Epoch,U6 a1.R.Index,t,u,U6 a1.Shards,v,U6 a1.Rule.ID,I6 a1.Rule.From,I6 a1.Rule.To,F6 a1.Rule.Lo,F6 a1.Rule.Hi,U6 a1.Rule.Authority,I6 a1.Rule.Quota,.bool a1.On] 49
 refine wa A B ?_
 obtain ⟨T,U,C,D,a⟩:=a.box [Zb,Zu,Zu,Zi,Zu,Zu,Zs,Zs] 35
 refine wa C D (nt (ww (mf z underlying49 z sizeOf46 (mf z underlying46 z sizeOf28 (mz (av (cs:=[U6 a1.Hold.ID.Session,U6 a1.Hold.ID.Seq]) z isAgg28 sizeOf28 (a.eI 6 z)) (mk (.agg #[U1 2,U6 a1.Hold.ID.Session,U6 a1.Hold.ID.Seq,Zi,Zu,Zu,Zs,Zs]) ?_))))))
 obtain ⟨V,W,F,G,a⟩:=a.box [Zb,Zu,Zu,Zi,Zu,Zu,Zs,Zs] 35
 refine wa F G (bxk a z sizeOf35 (oJ 8 z oN) fun X a=>nt (wp_seq (ww (mv (p0) z (mf z underlying49 z sizeOf46 (mz (av (cs:=[U6 a1.Hold.ID.Session,U6 a1.Hold.ID.Seq,U6 a1.Hold.Epoch,d,f,g,h]) z isAgg46 sizeOf46 (a.pQ 6 z)) ?_))))))
 replace a:=a.ap
 obtain ⟨q,H,c⟩:=bn c
 refine wc call19 [p0,.agg #[U6 a1.Hold.ID.Session,U6 a1.Hold.ID.Seq,U6 a1.Hold.Epoch,d,f,g,h]] z z z ((ta (m.mono (cy _)) (n.mono (cy _)) (o.mono (cy _)) (p.mono (cy _)) a.to1 H).mono ?_)
 rintro _ Y ⟨I158,rfl,j,a⟩
 refine ⟨_,z,?_⟩
 replace a:=a.of1
 replace m:=m.mono (nj j)
 replace n:=n.mono (nj j)
 replace o:=o.mono (nj j)
 replace p:=p.mono (nj j)
 replace i:=i.trans j
 refine mf z underlying35 z sizeOf33 (mf z underlying33 z sizeOf29 ?_)
 replace a:=a.ab
 refine byk (I6 q.1) a z sizeOf29 (oC z oN) fun Z a=>nt (ww (mf z underlying35 z sizeOf33 (mf z underlying33 z sizeOf29 (ml z isAgg29 (a.bc0 z) (mb z (nt (bw c z ?_ ?_)))))))
 {
 intro J c
 refine wrl (mv (p0) z (mf z underlying49 z sizeOf46 (mz (av (cs:=[U6 a1.Hold.ID.Session,U6 a1.Hold.ID.Seq,U6 a1.Hold.Epoch,d,f,g,h]) z isAgg46 sizeOf46 (a.rU 6 z)) ?_)))
 replace a:=a.ab
 obtain ⟨b,K,c⟩:=bn c
 refine wc call33 [p0,.agg #[U6 a1.Hold.ID.Session,U6 a1.Hold.ID.Seq,U6 a1.Hold.Epoch,d,f,g,h]] z z z ((sX (m.mono (cy _)) (n.mono (cy _)) (o.mono (cy _)) (p.mono (cy _)) a.to1 K).mono ?_)
 rintro _ b0 ⟨I166,k,l,rfl,L,a⟩
 refine ⟨_,z,?_⟩
 replace a:=a.of3
 replace i:=i.trans L
 refine mf z underlying35 z sizeOf33 ?_
 replace a:=a.ap
 refine byk (.agg #[I6 b.E,U6 b.Epoch,U6 b.Index,k,l]) a z sizeOf33 (oJ 3 z (oC (oS a.sv1) (oC (oS a.sv2) oN))) fun b1 a=>nt (ww (mz (av (cs:=[U1 2,U6 a1.Hold.ID.Session,U6 a1.Hold.ID.Seq,I6 b.E,U6 b.Epoch,U6 b.Index,k,l]) z isAgg35 sizeOf35 (a.eD 0 z)) ?_))
 replace a:=a.aY
 refine bxk a z sizeOf35 (oJ 6 z (oC (oS a.sv2) (oC (oS a.sv3) oN))) fun b2 a=>nt (wp_ret ?_)
 cases c
 exact aU [.agg #[U1 2,U6 a1.Hold.ID.Session,U6 a1.Hold.ID.Seq,I6 b.E,U6 b.Epoch,U6 b.Index,k,l]] results48 (bj (bF (cs:=[U1 2,U6 a1.Hold.ID.Session,U6 a1.Hold.ID.Seq,I6 b.E,U6 b.Epoch,U6 b.Index,k,l]) z isAgg35 sizeOf35 (a.eD 0 z)) ah) ⟨_,k,l,z,i,a.aY.aY.aY.dC⟩
}
 {
 intro J c
 refine wp_skip (tn (ww (mz (av (cs:=[U1 2,U6 a1.Hold.ID.Session,U6 a1.Hold.ID.Seq,I6 q.1,Zu,Zu,Zs,Zs]) z isAgg35 sizeOf35 (a.eD 0 z)) ?_)))
 replace a:=a.ay
 refine bxk a z sizeOf35 (oJ 8 z oN) fun b3 a=>nt (wp_ret ?_)
 replace a:=(a.aX aA).aX (dG aw)
 cases c
 exact aU [.agg #[U1 2,U6 a1.Hold.ID.Session,U6 a1.Hold.ID.Seq,I6 q.1,Zu,Zu,Zs,Zs]] results48 (bj (bF (cs:=[U1 2,U6 a1.Hold.ID.Session,U6 a1.Hold.ID.Seq,I6 q.1,Zu,Zu,Zs,Zs]) z isAgg35 sizeOf35 (a.pQ 0 z)) ah) ⟨_,Zs,Zs,z,i,a.aY.ab.ay.dC⟩
}
}
theorem mD {a0:(List al)} {b:Value} {a1 a2:Int} (a:St w0 w I [aZ bm b a0] R) {r:(List al)} (d:eK a0 a1 a2=some r) :
  Calls prog 182 #[b,I6 a1,I6 a2] w fun e w'=>∃ (f:Value),e = .returned (f)∧St w0 w' I [aZ bm f r] R:=by {
 unfold eK at d
 obtain ⟨hg,d⟩:=cw d
 cases d
 obtain ⟨g,o,q⟩:=sL hg
 obtain ⟨j,rfl⟩:=Int.eq_ofNat_of_zero_le (Int.le_trans g o)
 obtain ⟨k,rfl⟩:=Int.eq_ofNat_of_zero_le g
 have hkj:k≤j:=by omega
 have hs:∀ w:World,(sizeOf 46).run prog w = .ok bm.sz w:=sizeOf46
 obtain ⟨css,hr,a⟩:=a.cx
 obtain ⟨n,hn⟩:∃ n,css.length=n:=⟨_,rfl⟩
 have hln:a0.length=n:=hr.1.trans hn
 have hjn:j≤n:=by omega
 have hsv:dc b n:=by have:=a.cC.2; rwa [hn] at this
 have hoc:=hr.tc
 refine c0 func182 z ntmps182 (ww (mv ((.slice none 0 0)) z (nt (ww (mv (b) z (mi z (mi z (mv (b) z (mz (bW z underlying125 hsv) (Ep z z (yJ underlying125 hs z hsv z z z hkj hjn) fun s=>nt (wp_seq (ww (mi z (mi z (mb z (nt (iB ((k:Int)==(j:Int)) (fun c=>?_) (fun c=>?_))))))))))))))))))
 {
 refine dq (cvb c) (ww (mv (b) z (mv (b) z (nt (wp_ret (aI (aU [b] results182 (rc z ah) ?_)))))))
 rw [Ad c]
 exact ⟨_,z,(a.ba hr).bo⟩
}
 {
 refine bT (cvb c) ?_
 have hne:¬ ((k:Int)=(j:Int)):=by simpa using c
 have hlt:k<j:=by omega
 refine wp_skip (tn (ww (mv (b) z (mz (bW z underlying125 hsv) (mi z (nt (wp_seq (rg a 8 [0,0,3,0,0,24,63,127] [7] mixed (sz (b) 0 z z (si 1 z z (sh ((dh bm.sz b 0 k)) 2 z (fun w a=>cA (lo:=(0:Nat)) (hi:=(k:Nat)) underlying125 hs z hsv (by omega) (by omega) (by omega) .i64 .i64 (.inr ⟨z,z⟩) (.inl z)) (sz (b) 3 z z (si 4 z z (sh ((dh bm.sz b j n)) 5 z (fun w a=>cA (lo:=(j:Nat)) (hi:=(n:Nat)) underlying125 hs z hsv (by omega) (by omega) (by omega) .i64 .i64 (.inl z) (.inr ⟨z,z⟩)) (e1 6 z z fun w a=>?_)))))))))))))))
 obtain ⟨p,hra,a⟩:=vD (P:=prog) underlying125 hs a hn hlt hjn hoc 125
 refine bS (v:=(dh bm.sz b 0 (k+(n - j)))) (w':=p) z (bU z z hra) ?_
 have hnl:=(show _ from a)
 clear hnl
 have i:(css.take k++(css.drop j++css.drop (k+(n - j)))).length=n:=by simp only [List.length_append,List.length_take,List.length_drop]; omega
 have hsm:=Av a i (m:=(k+(n - j))) (by omega)
 refine w0n a (e1 7 z z fun w a=>bS (v:=(dh bm.sz b 0 (k+(n - j)))) (w':=w) z z (w0n a (bi ?_)))
 intro w a
 refine tn (ww (mv ((dh bm.sz b 0 (k+(n - j)))) z (mv ((dh bm.sz b 0 (k+(n - j)))) z (mz (bW z underlying125 hsm) (mi z (mv ((dh bm.sz b (k+(n - j)) n)) (xf underlying125 hs z hsv z z (by omega) (by omega)) ?_))))))
 obtain ⟨t,hrc,a⟩:=wL qx z (nv (by kernel_rfl)) a i (m:=(k+(n - j))) (by omega) 0
 refine Ag z z (Af z hrc) (nt (ww (mv ((dh bm.sz b 0 (k+(n - j)))) z (mv ((dh bm.sz b 0 (k+(n - j)))) z (nt (wp_ret (aU [(dh bm.sz b 0 (k+(n - j)))] results182 (rc z ah) ?_)))))))
 replace a:=a.gY (l:=0) (h:=(k+(n - j))) (Nat.zero_le _) (by simp only [List.length_append,List.length_take,List.length_drop,List.length_replicate]; omega)
 rw [yH hn hlt hjn (List.length_replicate ..)] at a
 exact ⟨_,z,(a.ba ((hr.take k).app (hr.drop j))).bo⟩
}
}
theorem sn {a0:(Option bZ)} {p0:Value} {a1:bK} (a:St w0 w I [cE bP p0 a0] R) {r:(Bool×(Option bZ))} (b:iR a0 a1=some r) :
  Calls prog 122 #[p0,.agg #[U6 a1.Session,U6 a1.Seq]] w fun e w'=>e = .returned (.bool r.1)∧St w0 w' I [cE bP p0 r.2] R:=by {
 rcases a0 with _ | p
 {
 dsimp only [iR] at b
 cases b
}
 {
 replace a:=bD a
 dsimp only [iR] at b
 refine c0 func122 z ntmps122 (ww ?_)
 obtain ⟨q,s,d,f,a⟩:=a.box [U6 a1.Session,U6 a1.Seq] 28
 refine wa d f (mb z (nt (ww (mv (p0) z (mz (av (cs:=[U6 a1.Session,U6 a1.Seq]) z isAgg28 sizeOf28 (a.eD 0 z)) ?_)))))
 replace a:=aJ a.ab
 obtain ⟨c,g,b⟩:=bn b
 refine wc call135 [p0,.agg #[U6 a1.Session,U6 a1.Seq]] z z z (kca (lV a.to1 g) fun t a=>?_)
 replace a:=bD a.of1
 refine mv (.tuple #[I6 c.1,.bool c.2]) z (mi z (mb z (mi z (mb z (nt (wp_seq (ww (mb z (nt (bw b z ?_ ?_))))))))))
 {
 intro h b
 refine wrl (mv (p0) z (mv (p0) z ?_))
 obtain ⟨i,j,rfl,k⟩:=dB a
 have a:=k
 refine mp z (mf z underlying203 z sizeOf125 (ml z isAgg125 (a.bc0 z) (mi z (mi z (mi z ?_)))))
 replace a:=a.ab
 obtain ⟨m,n,b⟩:=bn b
 refine wc call182 [j,I6 c.1,I6 (i64.wrap (c.1+1))] z z z (kcb (mD a.to1 n) fun o u a=>?_)
 replace a:=a.of1
 refine mp z (mf z underlying203 z sizeOf125 ?_)
 replace a:=a.ab
 refine b1k o a z (oS a.sv1) sizeOf125 fun v a=>nt (ww (mb z (mb z (nt (wp_ret ?_)))))
 cases b
 exact aU [.bool c.2] results122 (rc z ah) ⟨z,(aJ (dl (Pt i 0) (({l:=m}:bZ)) a.ab.ab z)).bo⟩
}
 {
 intro h b
 refine wp_skip (tn (ww (mb z (mb z (nt (wp_ret ?_))))))
 cases b
 exact aU [.bool c.2] results122 (rc z ah) ⟨z,(aJ a).bo⟩
}
}
}
theorem lE {a0:(List (List Value))} {d:Value} {a1:Int} {a2:(List (List Value))} {g:Value} (c:St w0 w I [aZ (lT 2) d a0,aZ (lT 2) g a2] R) {r:(List (List Value))} (q:fm a0 a1 a2=some r) :
  Calls prog 183 #[d,I6 a1,g] w fun e w'=>∃ (x:Value),e = .returned (x)∧St w0 w' I [aZ (lT 2) x r] R:=by {
 unfold fm at q
 obtain ⟨hg,q⟩:=cw q
 cases q
 obtain ⟨A,S,hrm⟩:=qs hg
 obtain ⟨k,rfl⟩:=Int.eq_ofNat_of_zero_le A
 have hsm:=qG hrm
 have hk:k≤a0.length:=by omega
 have hs:∀ w:World,(sizeOf 240).run prog w = .ok (lT 2).sz w:=sizeOf240
 have y:0<(lT 2).sz:=Nat.le_of_ble_eq_true rfl
 have hov:∀ (args:Array Value) (w:World),(callFunc 205 args).run prog w=(Extern.SlicesOverlaps.overlaps #[199,199] #[4] args >>= fun v=>(pure (.value v):Sem Next)).run prog w:=by intro args w; kernel_rfl
 obtain ⟨css,hr,c⟩:=c.cx
 replace c:=c.ab
 obtain ⟨dss,hq,c⟩:=c.cx
 replace c:=c.ab
 obtain ⟨n,hn⟩:∃ n,css.length=n:=⟨_,rfl⟩
 obtain ⟨m,hm'⟩:∃ m,dss.length=m:=⟨_,rfl⟩
 have hln:a0.length=n:=hr.1.trans hn
 have hlm:a2.length=m:=hq.1.trans hm'
 rw [hln] at hsm hk
 rw [hlm] at hsm
 have hsv:dc d n:=by have:=c.cC.2; rwa [hn] at this
 have hsq:dc g m:=by have:=c.ab.cC.2; rwa [hm'] at this
 have hoc:=hr.tc
 have hoq:=hq.tc
 have s:=wrap_add (a:=n) (b:=m) (by omega)
 have t:=wrap_add (a:=k) (b:=m) (by omega)
 have B:=pE (a:=n+m) (b:=k) (by omega) (by omega)
 have hrb:=cF (b:=32) hrm rfl
 rw [hln,hlm] at hrb
 refine c0 func183 z ntmps183 (ww (mv ((.slice none 0 0)) z (nt (ww (mv (d) z (mi z (mv ((dh (lT 2).sz d k n)) (cA (lo:=(k:Nat)) (hi:=(n:Nat)) underlying199 hs z hsv (by omega) (by omega) (by omega) .i64 .i64 (.inl z) (.inr ⟨z,z⟩)) (nt (ww (mv (g) z (mz (bW z underlying199 hsq) (mi z (nt (wp_seq (ww (mi z (mb z (nt (iB ((m:Int)==0) (fun j=>?_) (fun j=>?_))))))))))))))))))))
 {
 refine dq (cvb j) (ww (mv (d) z (mv (d) z (nt (wp_ret (aI (aU [d] results183 (rc z ah) ?_)))))))
 rw [sG (by rw [hlm]; exact j)]
 exact ⟨_,z,(c.ba hr).bo⟩
}
 {
 refine bT (cvb j) ?_
 have C:m≠0:=fun h=>by rw [h] at j; cases j
 have D:dss≠[]:=fun h=>C (by rw [← hm',h]; rfl)
 refine wp_skip (tn (ww (mv (d) z (mz (bW z underlying199 hsv) (mi z (nt (wp_seq (ww (mi z (mi z (mb z (nt (iB ((k:Int)==(n:Int)) (fun o=>?_) (fun o=>?_))))))))))))))
 {
 refine dq (cvb o) (ww (mv (d) z (mv (g) z ?_)))
 replace c:=((c.ba hr).ab.ba hq).ab
 obtain ⟨f,u,hra,c⟩:=bE wN underlying199 c c.jr (cF hrm z) 199
 refine bY (v:=f) (w':=u) z z (bU z z hra) (mv (f) z (nt (wp_ret (aI (aU [f] results183 (rc z ah) ?_)))))
 rw [sA (by rw [hln]; exact o)]
 exact ⟨_,z,c.bo⟩
}
 {
 refine bT (cvb o) ?_
 have hkn:k≠n:=fun h=>by rw [h] at o; simp at o
 have E:0<n:=by omega
 have F:css≠[]:=fun h=>by rw [h] at hn; simp at hn; omega
 refine wp_skip (tn (wp_seq (ww (mi z (mi z (mi (dv s z) (mv (d) z (mi (wS z underlying199 hsv) (mb z (nt (iB (decide (((n+m:Nat):Int)>(qM d:Int))) (fun p=>?_) (fun p=>?_))))))))))))
 {
 refine dq (cvb p) (ww (mv (d) z (mi z (mv ((dh (lT 2).sz d 0 k)) (cA (lo:=(0:Nat)) (hi:=(k:Nat)) underlying199 hs z hsv (by omega) (by omega) (by omega) .i64 .i64 (.inr ⟨z,z⟩) (.inl z)) (mi z (mi z (mi (dv s z) (mi z (mi (dv B z) ?_)))))))))
 obtain ⟨f,u,hra,i,zss,hzl,c⟩:=qv wN underlying3 c k (n+m - k) (by omega) (by have:=of_decide_eq_true p; omega) (by rw [show k+(n+m - k)=n+m by omega]; exact hrb) y 199
 rw [show k+(n+m - k)=n+m by omega] at i
 refine bY (v:=f) (w':=u) z z (bU z z hra) (mv (f) z (nt (ww (mv (f) z (mi z (mv ((dh (lT 2).sz f k (n+m))) (cA (lo:=(k:Nat)) (hi:=((n+m):Nat)) underlying199 hs z i (by omega) (by omega) (by omega) .i64 .i64 (.inl z) (.inr ⟨z,z⟩)) (mv (g) z ?_)))))))
 obtain ⟨G,H,c⟩:=dg (P:=prog) (t2:=199) (ty:=3) underlying199 hs c c.ay k m (N:=n+m) (by first | omega | (simp only [List.length_append,List.length_take,List.length_drop]; omega)) (by first | omega | (simp only [List.length_append,List.length_take,List.length_drop]; omega)) (by omega) (by first | omega | (simp only [List.length_append,List.length_take,List.length_drop]; omega)) (dT hoq _)
 refine bY (v:=.int .i64 (m:Nat)) (w':=G) z z (iD z z H) (nt (wp_seq (rg c 9 [0,0,0,6,15,0,0,96,255] [] mixed (sz (f) 0 z z (si 1 z z (si 2 z z (sh (I6 _) 3 z (fun w c=>dv t z) (sh ((dh (lT 2).sz f (k+m) (n+m))) 4 z (fun w c=>cA (lo:=((k+m):Nat)) (hi:=((n+m):Nat)) underlying199 hs z i (by omega) (by omega) (by omega) .i64 .i64 (.inl z) (.inr ⟨z,z⟩)) (sz (d) 5 z z (si 6 z z (sh ((dh (lT 2).sz d k n)) 7 z (fun w c=>cA (lo:=(k:Nat)) (hi:=(n:Nat)) underlying199 hs z hsv (by omega) (by omega) (by omega) .i64 .i64 (.inl z) (.inr ⟨z,z⟩)) (e1 8 z z fun w c=>?_))))))))))))
 obtain ⟨J,K,c⟩:=dg (P:=prog) (t2:=199) (ty:=3) underlying199 hs c (c.ab.gY (l:=k) (h:=n) hk (by omega)) (k+m) (n - k) (N:=n+m) (by first | omega | (simp only [List.length_append,List.length_take,List.length_drop]; omega)) (by first | omega | (simp only [List.length_append,List.length_take,List.length_drop]; omega)) (by omega) (by first | omega | (simp only [List.length_append,List.length_take,List.length_drop]; omega)) (dT (iO (dT hoc _) _) _)
 refine bS (v:=.int .i64 ((n - k):Nat)) (w':=J) z (iD z z K) (w0n c (bi ?_))
 intro w c
 refine tn (ww (mv (f) z (mv (f) z (nt (wp_ret (aI (aU [f] results183 (rc z ah) ?_)))))))
 rw [pj hn hm' hk hzl] at c
 exact ⟨_,z,(c.ba ((hr.take k).app (hq.app (hr.drop k)))).bo⟩
}
 {
 refine bT (cvb p) ?_
 have hup:n+m≤qM d:=by have:=of_decide_eq_false p; omega
 obtain ⟨ess,hel,hem,hst'⟩:=c.uf (n+m) (by omega) hup F
 rw [show n+m - css.length=m by omega] at hel
 have i:dc (upV d (n+m)) (n+m):=by have:=hst'.cC.2; rwa [List.length_append,hn,hel] at this
 clear c
 have c:=hst'
 clear hst'
 refine wp_skip (tn (ww (mv (d) z (mi z (mi z (mi (dv s z) (mv ((upV d (n+m))) (pu underlying199 hs z hsv z hup E) (mv ((upV d (n+m))) z (nt (wp_seq (ww (mv (g) z (mv ((upV d (n+m))) z (mi z (mi z (mi (dv t z) (mv ((dh (lT 2).sz (upV d (n+m)) (k+m) (n+m))) (cA (lo:=((k+m):Nat)) (hi:=((n+m):Nat)) underlying199 hs z i (by omega) (by omega) (by omega) .i64 .i64 (.inl z) (.inr ⟨z,z⟩)) (mb (wT z z z (hov _) (lY z underlying199 hs c.ab (k+m) (N:=n+m) (by rw [List.length_append]; omega) (by omega) D y)) (mb z (nt (dq z (wp_seq (rg c 9 [0,0,0,6,15,0,0,96,255] [] mixed (sz ((upV d (n+m))) 0 z z (si 1 z z (si 2 z z (sh (I6 _) 3 z (fun w c=>dv t z) (sh ((dh (lT 2).sz (upV d (n+m)) (k+m) (n+m))) 4 z (fun w c=>cA (lo:=((k+m):Nat)) (hi:=((n+m):Nat)) underlying199 hs z i (by omega) (by omega) (by omega) .i64 .i64 (.inl z) (.inr ⟨z,z⟩)) (sz ((upV d (n+m))) 5 z z (si 6 z z (sh ((dh (lT 2).sz (upV d (n+m)) k (n+m))) 7 z (fun w c=>cA (lo:=(k:Nat)) (hi:=((n+m):Nat)) underlying199 hs z i (by omega) (by omega) (by omega) .i64 .i64 (.inl z) (.inr ⟨z,z⟩)) (e1 8 z z fun w c=>?_))))))))))))))))))))))))))))))))
 obtain ⟨L,M,c⟩:=dg (P:=prog) (t2:=199) (ty:=3) underlying199 hs c (c.gY (l:=k) (h:=n+m) (by omega) (by rw [List.length_append]; omega)) (k+m) (n - k) (N:=n+m) (by first | omega | (simp only [List.length_append,List.length_take,List.length_drop]; omega)) (by first | omega | (simp only [List.length_append,List.length_take,List.length_drop]; omega)) (by omega) (by first | omega | (simp only [List.length_append,List.length_take,List.length_drop]; omega)) (by rw [qH hn hm' hk hel]; exact iO hoc _)
 refine bS (v:=.int .i64 ((n - k):Nat)) (w':=L) z (iD z z M) (w0n c (bi ?_))
 intro w c
 refine tn (ww (mv ((upV d (n+m))) z (mi z (mv ((dh (lT 2).sz (upV d (n+m)) k (n+m))) (cA (lo:=(k:Nat)) (hi:=((n+m):Nat)) underlying199 hs z i (by omega) (by omega) (by omega) .i64 .i64 (.inl z) (.inr ⟨z,z⟩)) (mv (g) z ?_)))))
 obtain ⟨O,Q,c⟩:=dg (P:=prog) (t2:=199) (ty:=3) underlying199 hs c c.ab k m (N:=n+m) (by first | omega | (simp only [List.length_append,List.length_take,List.length_drop]; omega)) (by first | omega | (simp only [List.length_append,List.length_take,List.length_drop]; omega)) (by omega) (by first | omega | (simp only [List.length_append,List.length_take,List.length_drop]; omega)) (dT hoq _)
 refine bY (v:=.int .i64 (m:Nat)) (w':=O) z z (iD z z Q) (nt (ww (mv ((upV d (n+m))) z (mv ((upV d (n+m))) z (nt (wp_ret (aI (aU [(upV d (n+m))] results183 (rc z ah) ?_))))))))
 rw [pt hn hm' hk hel] at c
 exact ⟨_,z,(c.ba ((hr.take k).app (hq.app (hr.drop k)))).bo⟩
}
}
}
}
theorem mL {a0:(List bR)} {c:Value} {a1:Int} {a2:(List bR)} {d:Value} (b:St w0 w I [ql cj c a0,ql cj d a2] R) {r:(List bR)} (a:eM a0 a1 a2=some r) :
  Calls prog 183 #[c,I6 a1,d] w fun e w'=>∃ (f:Value),e = .returned (f)∧St w0 w' I [ql cj f r] R:=by {
 unfold eM at a
 obtain ⟨hg,a⟩:=cw a
 cases a
 obtain ⟨vs,us,g,h,b⟩:=b.BY
 refine Calls.mono (lE b.to2 (r:=ins (cj.cs a0 vs) a1 (cj.cs a2 us)) (by unfold fm; rw [BO g h,hg]; rfl)) ?_
 rintro _ w' ⟨q,rfl,hst'⟩
 exact ⟨_,z,(hst'.of1.Dm g h).bo⟩
}
theorem vj {a0:aT} {f:Value} {a1 a2:Int} (i:Rd (cg .u8) R I f a0.Val) (d:St w0 w I [] R) {r:(Bool)} (c:px a0 a1 a2=some r) :
  Calls prog 185 #[.agg #[U6 a0.Epoch,U6 a0.Index,.bool a0.Del,f],U6 a1,U6 a2] w fun e w'=>e = .returned (.bool r)∧St w0 w' I [] R:=by {
 unfold px at c
 refine c0 func185 z ntmps185 (ww ?_)
 obtain ⟨j,k,g,h,d⟩:=d.box [U6 a0.Epoch,U6 a0.Index,.bool a0.Del,f] 214
 refine wa g h (mb z (nt (ww (mf z underlying214 z sizeOf26 (ml z isAgg26 (d.bc0 z) (mi z (mb z (mb z (bs c ?_ ?_)))))))))
 {
 intro a c
 refine go a (go a (go a (go a (go a (gu (gu (gu (gu (go a (mb (aM a z z) (mb z (nt (wp_ret ?_)))))))))))))
 cases c
 exact aU [.bool true] results185 (rc z ah) ⟨z,d.bQ⟩
}
 {
 intro a c
 refine gg a (aO z underlying214 z sizeOf26 z) (gg a (ao z isAgg26 (d.bc0 z)) (gi a z (gb a z (gb a z (bs c ?_ ?_)))))
 {
 intro b c
 refine gg b (aO z underlying214 z sizeOf26 z) (gg b (ao z isAgg26 (d.bc0 z)) (gi b z (gb b z (gb a (aM b z z) (mb (aE a z z) (mb z (nt (wp_ret ?_))))))))
 cases c
 exact aU [.bool (decide (a0.Index<a2))] results185 (rc z ah) ⟨z,d.bQ⟩
}
 {
 intro b c
 refine go b (go b (go b (go b (gb a (aE b z z) (mb (aE a z z) (mb z (nt (wp_ret ?_))))))))
 cases c
 exact aU [.bool false] results185 (rc z ah) ⟨z,d.bQ⟩
}
}
}
theorem kr {a0:(List aT)} {d:Value} {a1:Int} {a2:(List aT)} {g:Value} (c:St w0 w I [aZ cm d a0,aZ cm g a2] R) {r:(List aT)} (q:dK a0 a1 a2=some r) :
  Calls prog 186 #[d,I6 a1,g] w fun e w'=>∃ (x:Value),e = .returned (x)∧St w0 w' I [aZ cm x r] R:=by {
 unfold dK at q
 obtain ⟨hg,q⟩:=cw q
 cases q
 obtain ⟨A,S,hrm⟩:=qs hg
 obtain ⟨k,rfl⟩:=Int.eq_ofNat_of_zero_le A
 have hsm:=qG hrm
 have hk:k≤a0.length:=by omega
 have hs:∀ w:World,(sizeOf 214).run prog w = .ok cm.sz w:=sizeOf214
 have y:0<cm.sz:=Nat.le_of_ble_eq_true rfl
 have hov:∀ (args:Array Value) (w:World),(callFunc 207 args).run prog w=(Extern.SlicesOverlaps.overlaps #[238,238] #[4] args >>= fun v=>(pure (.value v):Sem Next)).run prog w:=by intro args w; kernel_rfl
 obtain ⟨css,hr,c⟩:=c.cx
 replace c:=c.ab
 obtain ⟨dss,hq,c⟩:=c.cx
 replace c:=c.ab
 obtain ⟨n,hn⟩:∃ n,css.length=n:=⟨_,rfl⟩
 obtain ⟨m,hm'⟩:∃ m,dss.length=m:=⟨_,rfl⟩
 have hln:a0.length=n:=hr.1.trans hn
 have hlm:a2.length=m:=hq.1.trans hm'
 rw [hln] at hsm hk
 rw [hlm] at hsm
 have hsv:dc d n:=by have:=c.cC.2; rwa [hn] at this
 have hsq:dc g m:=by have:=c.ab.cC.2; rwa [hm'] at this
 have hoc:=hr.tc
 have hoq:=hq.tc
 have s:=wrap_add (a:=n) (b:=m) (by omega)
 have t:=wrap_add (a:=k) (b:=m) (by omega)
 have B:=pE (a:=n+m) (b:=k) (by omega) (by omega)
 have hrb:=cF (b:=48) hrm rfl
 rw [hln,hlm] at hrb
 refine c0 func186 z ntmps186 (ww (mv ((.slice none 0 0)) z (nt (ww (mv (d) z (mi z (mv ((dh cm.sz d k n)) (cA (lo:=(k:Nat)) (hi:=(n:Nat)) underlying238 hs z hsv (by omega) (by omega) (by omega) .i64 .i64 (.inl z) (.inr ⟨z,z⟩)) (nt (ww (mv (g) z (mz (bW z underlying238 hsq) (mi z (nt (wp_seq (ww (mi z (mb z (nt (iB ((m:Int)==0) (fun j=>?_) (fun j=>?_))))))))))))))))))))
 {
 refine dq (cvb j) (ww (mv (d) z (mv (d) z (nt (wp_ret (aI (aU [d] results186 (rc z ah) ?_)))))))
 rw [sG (by rw [hlm]; exact j)]
 exact ⟨_,z,(c.ba hr).bo⟩
}
 {
 refine bT (cvb j) ?_
 have C:m≠0:=fun h=>by rw [h] at j; cases j
 have D:dss≠[]:=fun h=>C (by rw [← hm',h]; rfl)
 refine wp_skip (tn (ww (mv (d) z (mz (bW z underlying238 hsv) (mi z (nt (wp_seq (ww (mi z (mi z (mb z (nt (iB ((k:Int)==(n:Int)) (fun o=>?_) (fun o=>?_))))))))))))))
 {
 refine dq (cvb o) (ww (mv (d) z (mv (g) z ?_)))
 replace c:=((c.ba hr).ab.ba hq).ab
 obtain ⟨f,u,hra,c⟩:=bE yG underlying238 c c.jr (cF hrm z) 238
 refine bY (v:=f) (w':=u) z z (bU z z hra) (mv (f) z (nt (wp_ret (aI (aU [f] results186 (rc z ah) ?_)))))
 rw [sA (by rw [hln]; exact o)]
 exact ⟨_,z,c.bo⟩
}
 {
 refine bT (cvb o) ?_
 have hkn:k≠n:=fun h=>by rw [h] at o; simp at o
 have E:0<n:=by omega
 have F:css≠[]:=fun h=>by rw [h] at hn; simp at hn; omega
 refine wp_skip (tn (wp_seq (ww (mi z (mi z (mi (dv s z) (mv (d) z (mi (wS z underlying238 hsv) (mb z (nt (iB (decide (((n+m:Nat):Int)>(qM d:Int))) (fun p=>?_) (fun p=>?_))))))))))))
 {
 refine dq (cvb p) (ww (mv (d) z (mi z (mv ((dh cm.sz d 0 k)) (cA (lo:=(0:Nat)) (hi:=(k:Nat)) underlying238 hs z hsv (by omega) (by omega) (by omega) .i64 .i64 (.inr ⟨z,z⟩) (.inl z)) (mi z (mi z (mi (dv s z) (mi z (mi (dv B z) ?_)))))))))
 obtain ⟨f,u,hra,i,zss,hzl,c⟩:=qv yG underlying3 c k (n+m - k) (by omega) (by have:=of_decide_eq_true p; omega) (by rw [show k+(n+m - k)=n+m by omega]; exact hrb) y 238
 rw [show k+(n+m - k)=n+m by omega] at i
 refine bY (v:=f) (w':=u) z z (bU z z hra) (mv (f) z (nt (ww (mv (f) z (mi z (mv ((dh cm.sz f k (n+m))) (cA (lo:=(k:Nat)) (hi:=((n+m):Nat)) underlying238 hs z i (by omega) (by omega) (by omega) .i64 .i64 (.inl z) (.inr ⟨z,z⟩)) (mv (g) z ?_)))))))
 obtain ⟨G,H,c⟩:=dg (P:=prog) (t2:=238) (ty:=3) underlying238 hs c c.ay k m (N:=n+m) (by first | omega | (simp only [List.length_append,List.length_take,List.length_drop]; omega)) (by first | omega | (simp only [List.length_append,List.length_take,List.length_drop]; omega)) (by omega) (by first | omega | (simp only [List.length_append,List.length_take,List.length_drop]; omega)) (dT hoq _)
 refine bY (v:=.int .i64 (m:Nat)) (w':=G) z z (iD z z H) (nt (wp_seq (rg c 9 [0,0,0,6,15,0,0,96,255] [] mixed (sz (f) 0 z z (si 1 z z (si 2 z z (sh (I6 _) 3 z (fun w c=>dv t z) (sh ((dh cm.sz f (k+m) (n+m))) 4 z (fun w c=>cA (lo:=((k+m):Nat)) (hi:=((n+m):Nat)) underlying238 hs z i (by omega) (by omega) (by omega) .i64 .i64 (.inl z) (.inr ⟨z,z⟩)) (sz (d) 5 z z (si 6 z z (sh ((dh cm.sz d k n)) 7 z (fun w c=>cA (lo:=(k:Nat)) (hi:=(n:Nat)) underlying238 hs z hsv (by omega) (by omega) (by omega) .i64 .i64 (.inl z) (.inr ⟨z,z⟩)) (e1 8 z z fun w c=>?_))))))))))))
 obtain ⟨J,K,c⟩:=dg (P:=prog) (t2:=238) (ty:=3) underlying238 hs c (c.ab.gY (l:=k) (h:=n) hk (by omega)) (k+m) (n - k) (N:=n+m) (by first | omega | (simp only [List.length_append,List.length_take,List.length_drop]; omega)) (by first | omega | (simp only [List.length_append,List.length_take,List.length_drop]; omega)) (by omega) (by first | omega | (simp only [List.length_append,List.length_take,List.length_drop]; omega)) (dT (iO (dT hoc _) _) _)
 refine bS (v:=.int .i64 ((n - k):Nat)) (w':=J) z (iD z z K) (w0n c (bi ?_))
 intro w c
 refine tn (ww (mv (f) z (mv (f) z (nt (wp_ret (aI (aU [f] results186 (rc z ah) ?_)))))))
 rw [pj hn hm' hk hzl] at c
 exact ⟨_,z,(c.ba ((hr.take k).app (hq.app (hr.drop k)))).bo⟩
}
 {
 refine bT (cvb p) ?_
 have hup:n+m≤qM d:=by have:=of_decide_eq_false p; omega
 obtain ⟨ess,hel,hem,hst'⟩:=c.uf (n+m) (by omega) hup F
 rw [show n+m - css.length=m by omega] at hel
 have i:dc (upV d (n+m)) (n+m):=by have:=hst'.cC.2; rwa [List.length_append,hn,hel] at this
 clear c
 have c:=hst'
 clear hst'
 refine wp_skip (tn (ww (mv (d) z (mi z (mi z (mi (dv s z) (mv ((upV d (n+m))) (pu underlying238 hs z hsv z hup E) (mv ((upV d (n+m))) z (nt (wp_seq (ww (mv (g) z (mv ((upV d (n+m))) z (mi z (mi z (mi (dv t z) (mv ((dh cm.sz (upV d (n+m)) (k+m) (n+m))) (cA (lo:=((k+m):Nat)) (hi:=((n+m):Nat)) underlying238 hs z i (by omega) (by omega) (by omega) .i64 .i64 (.inl z) (.inr ⟨z,z⟩)) (mb (wT z z z (hov _) (lY z underlying238 hs c.ab (k+m) (N:=n+m) (by rw [List.length_append]; omega) (by omega) D y)) (mb z (nt (dq z (wp_seq (rg c 9 [0,0,0,6,15,0,0,96,255] [] mixed (sz ((upV d (n+m))) 0 z z (si 1 z z (si 2 z z (sh (I6 _) 3 z (fun w c=>dv t z) (sh ((dh cm.sz (upV d (n+m)) (k+m) (n+m))) 4 z (fun w c=>cA (lo:=((k+m):Nat)) (hi:=((n+m):Nat)) underlying238 hs z i (by omega) (by omega) (by omega) .i64 .i64 (.inl z) (.inr ⟨z,z⟩)) (sz ((upV d (n+m))) 5 z z (si 6 z z (sh ((dh cm.sz (upV d (n+m)) k (n+m))) 7 z (fun w c=>cA (lo:=(k:Nat)) (hi:=((n+m):Nat)) underlying238 hs z i (by omega) (by omega) (by omega) .i64 .i64 (.inl z) (.inr ⟨z,z⟩)) (e1 8 z z fun w c=>?_))))))))))))))))))))))))))))))))
 obtain ⟨L,M,c⟩:=dg (P:=prog) (t2:=238) (ty:=3) underlying238 hs c (c.gY (l:=k) (h:=n+m) (by omega) (by rw [List.length_append]; omega)) (k+m) (n - k) (N:=n+m) (by first | omega | (simp only [List.length_append,List.length_take,List.length_drop]; omega)) (by first | omega | (simp only [List.length_append,List.length_take,List.length_drop]; omega)) (by omega) (by first | omega | (simp only [List.length_append,List.length_take,List.length_drop]; omega)) (by rw [qH hn hm' hk hel]; exact iO hoc _)
 refine bS (v:=.int .i64 ((n - k):Nat)) (w':=L) z (iD z z M) (w0n c (bi ?_))
 intro w c
 refine tn (ww (mv ((upV d (n+m))) z (mi z (mv ((dh cm.sz (upV d (n+m)) k (n+m))) (cA (lo:=(k:Nat)) (hi:=((n+m):Nat)) underlying238 hs z i (by omega) (by omega) (by omega) .i64 .i64 (.inl z) (.inr ⟨z,z⟩)) (mv (g) z ?_)))))
 obtain ⟨O,Q,c⟩:=dg (P:=prog) (t2:=238) (ty:=3) underlying238 hs c c.ab k m (N:=n+m) (by first | omega | (simp only [List.length_append,List.length_take,List.length_drop]; omega)) (by first | omega | (simp only [List.length_append,List.length_take,List.length_drop]; omega)) (by omega) (by first | omega | (simp only [List.length_append,List.length_take,List.length_drop]; omega)) (dT hoq _)
 refine bY (v:=.int .i64 (m:Nat)) (w':=O) z z (iD z z Q) (nt (ww (mv ((upV d (n+m))) z (mv ((upV d (n+m))) z (nt (wp_ret (aI (aU [(upV d (n+m))] results186 (rc z ah) ?_))))))))
 rw [pt hn hm' hk hel] at c
 exact ⟨_,z,(c.ba ((hr.take k).app (hq.app (hr.drop k)))).bo⟩
}
}
}
}
end Go.Proofs.YtgnkkopjkgdieaaGreat
