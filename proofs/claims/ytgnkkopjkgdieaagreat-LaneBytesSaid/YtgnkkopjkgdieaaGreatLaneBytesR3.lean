/- A part of the proof. -/
import Derived.Test.YtgnkkopjkgdieaaGreatLaneBytesR2
set_option linter.unusedVariables false
set_option linter.unusedSimpArgs false
set_option maxRecDepth 100000
set_option maxHeartbeats 4000000
namespace Go.Proofs.YtgnkkopjkgdieaaGreat
open Go Go.V
open _root_.Go.Proofs.Tryz IntKind
variable {w0 w:World} {I:HL} {R:SP}
attribute [local irreducible] wpList Code.wp wpQuiet Calls bodyPost Oper.wp wpS Nx kL YieldsIn
theorem kS {a0:(List aP)} {d:Value} {a1:Nat} {a2:Int} (f:Ro dK I d a0) (a:St w0 w I [] R) {r:(cC)} (b:lc a0 a1 a2=some r) :
  Calls prog 80 #[d,F6 a1,U6 a2] w fun e w'=>∃ (I':HL) (j:Value),e = .returned (.agg #[.bool r.Has,j])∧I.le I'∧Ro (cr .u8) I' j r.Val∧St w0 w' I' [] R:=by {
 unfold lc at b
 refine c0 func80 z z ?_
 have h:=HL.le.refl I
 refine ww ?_
 obtain ⟨y,A,n,o,a⟩:=a.box [.bool false,Zs] 61
 refine wa n o (nt (ww (mv (d) z (mv (F6 _) z (mi z (bk b fun B p b=>wc call149 [d,F6 a1,U6 a2] z z z (kcO (Bc (f.mono cS) a.to0 p) fun C a=>mi z (nt (aj (ww (mi z (mb z (mb z (bs b ?_ ?_))))))))))))))
 {
 refine fun c b=>go c (go c (go c (go c (go c (mb (bi c z z) (nt (eG z (ww (mk (.agg #[.bool false,Zs]) (bxk a z sI (oC z (oC z oN)) fun D a=>nt (ar (bh ?_))))))))))))
 have q:Ro (cr .u8) I (.slice none 0 0) []:=dc
 cases b
 exact dI [.agg #[.bool false,Zs]] z (ea (rN (cs:=[.bool false,Zs]) z (a.fm 0 z)) bl) ⟨_,Zs,z,h,q,a.cT⟩
}
 refine fun c b=>gv (d) c z (gi c z ?_)
 obtain ⟨E,s,b⟩:=bn b
 obtain ⟨k,l,t⟩:=aV s
 refine gg c (aJ z z uI sI (ak f) k l) (gg c (xG z fI z) ?_)
 obtain ⟨F,u,m⟩:=Ro.lC f t
 obtain ⟨g,rfl,i,-⟩:=u
 refine gg c (xL z ((m lr a) 3 _ z)) (mb (aL c z z) (nt (bw b z ?_ ?_)))
 {
 refine fun v b=>ww (mk (.agg #[.bool false,Zs]) (bxk a z sI (oC z (oC z oN)) fun G a=>nt (ar (bh ?_))))
 have x:Ro (cr .u8) I (.slice none 0 0) []:=dc
 cases b
 exact dI [.agg #[.bool false,Zs]] z (ea (rN (cs:=[.bool false,Zs]) z (a.fm 0 z)) bl) ⟨_,Zs,z,h,x,a.cT⟩
}
 refine fun v b=>al (tn (ww (mv (d) z (mi z (mz (aJ z z uI sI (ak f) k l) (mz (xG z fI z) (mL z ((m lr a) 4 _ z) (wv (.agg #[.bool true,g]) z z (by obtain ⟨_,_,hv_,_⟩:=(ak i); rw [hv_]; kernel_rfl) (bxk a z sI (oC z (oC (oS (ak i)) oN)) fun H a=>nt (ar ?_))))))))))
 cases b
 exact dI [.agg #[.bool true,g]] z (ea (rN (cs:=[.bool true,g]) z (a.fm 0 z)) bl) ⟨_,g,z,h,i,a.cT⟩
}
theorem Bw {a0:(List aP)} {k:Value} (i:Rd dK R I k a0) (b:St w0 w I [] R) {r:((List Nat))} (c:vi a0=some r) :
  Calls prog 152 #[k] w fun e w'=>∃ (I':HL) (H:Value),e = .returned (H)∧I.le I'∧St w0 w' I' [bp cp H r] R:=by {
 unfold vi at c
 refine c0 func152 z z ?_
 have u:=HL.le.refl I
 refine ww (mv ((.slice none 0 0)) z (nt (ww (mv ((.slice none 0 0)) z (nt (aj (ww (mi z (nt (au ?_))))))))))
 replace b:=b.ba cp
 obtain ⟨b5,c⟩:=aS c
 refine bg (fun n a w=>∃ (o:HL) (h:(List Nat)) (m:Int) (d:Value),cU (pC a0) n (h,m)=some r∧fz 66 [0,3,4] [k,d,I6 m] a∧I.le o∧St w0 w o [bp cp d h] R) b5 ⟨_,[],0,Zs,c,fy z,lr,b⟩ ?_
 rintro i7 _ i8 ⟨o,h,m,d,c,⟨i9,rfl⟩,l,b⟩
 obtain ⟨j0,b6,rfl,c,q⟩:=aU c
 dsimp only [pC] at c
 replace i:=i.mono (qK l)
 replace u:=u.trans l
 refine aj (ww (mi z (mv (k) z (mz (bX z uI (ay i)) (mb z (nt (bw c z ?_ ?_)))))))
 {
 refine fun b7 c=>al (tn (aj (au (ww (mi z (nt ?_))))))
 obtain ⟨b8,c,J⟩:=bn c
 refine cR (fun a w=>∃ (j:Int),(nG h a0 m) j=some b6∧fz 66 [0,3,4,5] [k,d,I6 m,I6 j] a∧St w0 w o [bp cp d h] R) ?_ ?_
 {
 refine au ?_
 obtain ⟨b9,c⟩:=aS c
 refine bg (fun n a w=>∃ (p:Int),cU (nC h a0 m) n p=some b8∧fz 66 [0,3,4,5] [k,d,I6 m,I6 p] a∧St w0 w o [bp cp d h] R) b9 ⟨0,c,fy z,b⟩ ?_
 rintro j1 _ j2 ⟨p,c,⟨j3,rfl⟩,b⟩
 obtain ⟨j4,j5,rfl,c,x⟩:=aU c
 dsimp only [nC] at c
 refine aj (aj (rg b 16 [0,0,2,7,15,31,31,127,255,31,31,1567,3615,7711,16383,32767] [] mixed (si 0 z z (sz (d) 1 z z (sh _ 2 z (fun w b=>bX z uI b.sv0) (sb 3 z z (sb 4 z z (bs c ?_ ?_))))))))
 {
 refine fun f c=>sgz d 5 z f z (sgz (I6 _) 6 z f z ?_)
 obtain ⟨c1,c2,c⟩:=bn c
 obtain ⟨c3,c4,c5⟩:=aV c2
 refine sg _ 7 z f (fun w b=>aJ z z uI sI b.sv0 c3 c4) (sg _ 8 z f (fun w b=>xL z (b.ol0 c5 riA)) (sgz k 9 z f z (sgz (I6 _) 10 z f z ?_)))
 obtain ⟨c6,c7,c⟩:=bn c
 obtain ⟨c8,c9,d0⟩:=aV c7
 refine sg _ 11 z f (fun w b=>aJ z z uI sI (ay i) c8 c9) (sg _ 12 z f (fun w b=>xG z fI z) ?_)
 obtain ⟨j6,d1,d2⟩:=Rd.lC i d0
 obtain ⟨j7,rfl,j8,-⟩:=d1
 refine sg _ 13 z f (fun w b=>xL z ((d2 lr b) 0 _ z)) (iN 14 krA (nxe [15] krA z ((av z z z (cvb f)).trans z) ?_))
 clear b
 intro w b
 obtain ⟨j9,d3,c⟩:=bn c
 refine wec call59 [F6 c1,F6 c6.At] z z (kcO (nO b.to0 d3) fun k0 b=>w0n b (sh (.bool _) 15 z (fun w b=>bi f z z) (bt ?_)))
 refine fun w b=>tn (bw c z ?_ ?_)
 {
 refine fun d4 c=>al (tn (au (wrl (mi z (mi z (mi z (dv (bJ (tn ?_)))))))))
 cases c
 exact ⟨_,nls,_,x,fy z,b.bF⟩
}
 refine fun d4 c=>bH (aQ (aQ ?_))
 replace c:=bz c x
 refine cZ (tn ?_)
 obtain rfl:=sj c
 exact ⟨p,J,fy z,b.bF⟩
}
 refine fun f c=>so 5 z f (so 6 z f (so 7 z f (so 8 z f (so 9 z f (so 10 z f (so 11 z f (so 12 z f (so 13 z f (so 14 z f (sh (.bool _) 15 z (fun w b=>aL f z z) (bt ?_)))))))))))
 refine fun w b=>tn (cJ z (bH (aQ (aQ ?_))))
 replace c:=bz c x
 refine cZ (tn ?_)
 obtain rfl:=sj c
 exact ⟨p,J,fy z,b.bF⟩
}
 rintro _ k1 ⟨j,c,⟨k2,rfl⟩,b⟩
 dsimp only [nG] at c
 refine aj (aj (rg b 16 [0,0,2,7,15,31,31,127,255,31,31,1567,3615,7711,16383,32767] [] mixed (si 0 z z (sz (d) 1 z z (sh _ 2 z (fun w b=>bX z uI b.sv0) (sb 3 z z (sb 4 z z (bs c ?_ ?_))))))))
 {
 refine fun g c=>sgz d 5 z g z (sgz (I6 _) 6 z g z ?_)
 obtain ⟨d5,d6,c⟩:=bn c
 obtain ⟨d7,d8,d9⟩:=aV d6
 refine sg _ 7 z g (fun w b=>aJ z z uI sI b.sv0 d7 d8) (sg _ 8 z g (fun w b=>xL z (b.ol0 d9 riA)) (sgz k 9 z g z (sgz (I6 _) 10 z g z ?_)))
 obtain ⟨y,e0,c⟩:=bn c
 obtain ⟨K,L,M⟩:=aV e0
 refine sg _ 11 z g (fun w b=>aJ z z uI sI (ay i) K L) (sg _ 12 z g (fun w b=>xG z fI z) ?_)
 obtain ⟨k3,e1,e2⟩:=Rd.lC i M
 obtain ⟨k4,rfl,k5,-⟩:=e1
 refine sg _ 13 z g (fun w b=>xL z ((e2 lr b) 0 _ z)) (iN 14 krA (nxe [15] krA z ((av z z z (cvb g)).trans z) ?_))
 clear b
 intro w b
 obtain ⟨k6,e3,c⟩:=bn c
 refine wec call20 [F6 d5,F6 y.At] z z (kcO (fL b.to0 e3) fun k7 b=>w0n b (sh (.bool _) 15 z (fun w b=>bi g z z) (bt ?_)))
 refine fun w b=>tn (bw c z ?_ ?_)
 {
 refine fun e4 c=>bH (aQ (cZ (tn (wrl (mi z (mi z (mi z (nt ?_))))))))
 cases c
 exact ⟨_,nls,_,h,_,d,q,fy z,l,b.bF⟩
}
 refine fun e4 c=>al (tn (ww (mv ((.slice none 0 0)) z (nt (ww (mv ((.slice none 0 0)) z (mv (d) z (mi z ?_))))))))
 obtain ⟨N,O,s,b⟩:=b.cO
 replace i:=i.mono (qK O)
 replace l:=l.trans O
 obtain ⟨e5,c⟩:=cF c
 obtain ⟨P,Q,S⟩:=tB e5
 have e6:Ro cp N (dR 1 d (0:Int).toNat j.toNat) (lL h 0 j):=Ro.part s Q S P
 refine mv ((dR 1 d (0:Int).toNat j.toNat)) (dr uI sI z (ak s) P Q S .i64 .i64 (.inr ⟨z,z⟩) (.inl z)) ?_
 replace b:=b.ba cp
 obtain ⟨e7,c⟩:=cF c
 obtain ⟨A,e8,e9,b⟩:=bO ru underlying43 b (Src.Aw b e6) (cP e7 z) 43
 replace b:=St.Di b
 refine cK (v:=A) (w':=e8) z z (ck z z e9) (mv (A) z (nt (ww (mv (A) z (mv (k) z (mi z (mz (aJ z z uI sI (ay i) K L) (mz (xG z fI z) ?_))))))))
 obtain ⟨k8,f0,f1⟩:=Rd.lC i M
 obtain ⟨k9,rfl,l0,-⟩:=f0
 refine mL z ((f1 lr b) 0 _ z) ?_
 obtain ⟨f2,f3,f4,f5,b⟩:=b.lits (E:=cp) (xs:=[y.At]) [[F6 y.At]] 37 1 z (bT.cons z bT.nil)
 refine cK (v:=(.slice (some ⟨f2,0,none⟩) 1 1)) (w':=f3) z z (dH krA f4 f5) ?_
 obtain ⟨f6,c⟩:=cF c
 replace b:=b.ah
 obtain ⟨B,f7,f8,b⟩:=bO ru underlying43 b b.iL (cP f6 z) 43
 refine cK (v:=B) (w':=f7) z z (ck z z f8) (mv (B) z (nt (wrl (mv (B) z (mv (d) z (mi z ?_))))))
 obtain ⟨f9,c⟩:=cF c
 obtain ⟨T,U,V⟩:=tB f9
 have g0:Ro cp N (dR 1 d j.toNat (((h).length:Nat):Int).toNat) (lL h j (((h).length:Nat):Int)):=Ro.part s U V T
 refine mv ((dR 1 d j.toNat (((h).length:Nat):Int).toNat)) (dr uI sI z (ak s) T U V .i64 .i64 (.inl z) (.inr ⟨z,z⟩)) ?_
 obtain ⟨g1,c⟩:=cF c
 obtain ⟨C,g2,g3,b⟩:=bO ru underlying43 b (Src.Aw b g0) (cP g1 z) 43
 refine cK (v:=C) (w':=g2) z z (ck z z g3) (mv (C) z (dv (bJ (tn (wrl (mi z (mi z (mi z (nt ?_)))))))))
 cases c
 exact ⟨_,nls,_,_,_,C,q,fy z,l,b.bF⟩
}
 refine fun g c=>so 5 z g (so 6 z g (so 7 z g (so 8 z g (so 9 z g (so 10 z g (so 11 z g (so 12 z g (so 13 z g (so 14 z g (sh (.bool _) 15 z (fun w b=>aL g z z) (bt ?_)))))))))))
 refine fun w b=>tn (cJ z (al (tn (ww (mv ((.slice none 0 0)) z (nt (ww (mv ((.slice none 0 0)) z (mv (d) z (mi z ?_))))))))))
 obtain ⟨W,X,t,b⟩:=b.cO
 replace i:=i.mono (qK X)
 replace l:=l.trans X
 obtain ⟨g4,c⟩:=cF c
 obtain ⟨Y,Z,b0⟩:=tB g4
 have g5:Ro cp W (dR 1 d (0:Int).toNat j.toNat) (lL h 0 j):=Ro.part t Z b0 Y
 refine mv ((dR 1 d (0:Int).toNat j.toNat)) (dr uI sI z (ak t) Y Z b0 .i64 .i64 (.inr ⟨z,z⟩) (.inl z)) ?_
 replace b:=b.ba cp
 obtain ⟨g6,c⟩:=cF c
 obtain ⟨D,g7,g8,b⟩:=bO ru underlying43 b (Src.Aw b g5) (cP g6 z) 43
 replace b:=St.Di b
 refine cK (v:=D) (w':=g7) z z (ck z z g8) (mv (D) z (nt (ww (mv (D) z (mv (k) z (mi z ?_))))))
 obtain ⟨b1,g9,c⟩:=bn c
 obtain ⟨h0,h1,h2⟩:=aV g9
 refine mz (aJ z z uI sI (ay i) h0 h1) (mz (xG z fI z) ?_)
 obtain ⟨l1,h3,h4⟩:=Rd.lC i h2
 obtain ⟨l2,rfl,l3,-⟩:=h3
 refine mL z ((h4 lr b) 0 _ z) ?_
 obtain ⟨h5,h6,h7,h8,b⟩:=b.lits (E:=cp) (xs:=[b1.At]) [[F6 b1.At]] 37 1 z (bT.cons z bT.nil)
 refine cK (v:=(.slice (some ⟨h5,0,none⟩) 1 1)) (w':=h6) z z (dH krA h7 h8) ?_
 obtain ⟨h9,c⟩:=cF c
 replace b:=b.ah
 obtain ⟨F,i0,i1,b⟩:=bO ru underlying43 b b.iL (cP h9 z) 43
 refine cK (v:=F) (w':=i0) z z (ck z z i1) (mv (F) z (nt (wrl (mv (F) z (mv (d) z (mi z ?_))))))
 obtain ⟨i2,c⟩:=cF c
 obtain ⟨b2,b3,b4⟩:=tB i2
 have i3:Ro cp W (dR 1 d j.toNat (((h).length:Nat):Int).toNat) (lL h j (((h).length:Nat):Int)):=Ro.part t b3 b4 b2
 refine mv ((dR 1 d j.toNat (((h).length:Nat):Int).toNat)) (dr uI sI z (ak t) b2 b3 b4 .i64 .i64 (.inl z) (.inr ⟨z,z⟩)) ?_
 obtain ⟨i4,c⟩:=cF c
 obtain ⟨G,i5,i6,b⟩:=bO ru underlying43 b (Src.Aw b i3) (cP i4 z) 43
 refine cK (v:=G) (w':=i5) z z (ck z z i6) (mv (G) z (dv (bJ (tn (wrl (mi z (mi z (mi z (nt ?_)))))))))
 cases c
 exact ⟨_,nls,_,_,_,G,q,fy z,l,b.bF⟩
}
 refine fun b7 c=>bH (aQ (aQ ?_))
 replace c:=bz c q
 refine cZ (tn (ww (mv (d) z (mv (d) z (nt (ar ?_))))))
 cases c
 exact dI [d] z (rc z bl) ⟨_,d,z,u,b.bF⟩
}
theorem AD {a0:(List aP)} {i:Value} {a1 a2:Nat} {a3 a4:Int} (l:Ro dK I i a0) (b:St w0 w I [] R) {r:((List bP))} (c:oV a0 a1 a2 a3 a4=some r) :
  Calls prog 81 #[i,F6 a1,F6 a2,U6 a3,I6 a4] w fun e w'=>∃ (I':HL) (C:Value),e = .returned (C)∧I.le I'∧St w0 w' I' [bp aH C r] R:=by {
 unfold oV at c
 refine c0 func81 z z ?_
 have m:=HL.le.refl I
 refine ww (mv ((.slice none 0 0)) z (nt (ww (mv ((.slice none 0 0)) z (nt (ww (mv (i) z (bk c fun D H c=>wc call152 [i] z z z ((Bw (l.mono cS) b.to0 H).mono ?_)))))))))
 rintro _ b2 ⟨J,h,rfl,F,b⟩
 refine ⟨_,z,?_⟩
 replace b:=b.of1
 replace l:=l.mono (ro_le F)
 replace m:=m.trans F
 refine mv (h) z (nt (aj (ww (mi z (nt (au ?_))))))
 replace b:=b.ba aH
 obtain ⟨K,c⟩:=aS c
 refine bg (fun n a w=>∃ (t:HL) (o:(List bP)) (p:Int) (f:Value),cU (od D a4 a0 a3 a1 a2) n (o,p)=some r∧fz 58 [0,1,2,3,4,11,12,13] [i,F6 a1,F6 a2,U6 a3,I6 a4,f,h,I6 p] a∧J.le t∧St w0 w t [bp aH f o,bp cp h D] R) K ⟨_,[],0,Zs,c,fy z,lr,b⟩ ?_
 rintro b3 _ b4 ⟨t,o,p,f,c,⟨b5,rfl⟩,j,b⟩
 obtain ⟨b6,b7,rfl,c,q⟩:=aU c
 dsimp only [od] at c
 replace l:=l.mono (ro_le j)
 replace m:=m.trans j
 refine aj (ww (mi z (mv (h) z (mz (bX z uI b.sv1) (mb z (mb z (bs c ?_ ?_)))))))
 {
 refine fun g c=>gv (f) g z (gg g (bX z uI b.sv0) (gi g z (gb g z (mb (bi g z z) (nt (bw c z ?_ ?_))))))
 {
 refine fun L c=>al (tn (aj (au (ww (mv (i) z (mv (h) z (mi z ?_)))))))
 obtain ⟨k,M,c⟩:=bn c
 obtain ⟨u,x,y⟩:=aV M
 refine mz (aJ z z uI sI b.sv1 u x) (mL z (b.ol1 y riA) (mi z ?_))
 refine bk c fun G N c=>wc call80 [i,F6 k,U6 a3] z z z ((kS l b.to0 N).mono ?_)
 rintro _ b8 ⟨b9,A,rfl,O,s,b⟩
 refine ⟨_,z,?_⟩
 replace b:=b.of0
 replace j:=j.trans O
 obtain ⟨P,c1,Q,S,b⟩:=b.box [.bool false,Zs] 61
 refine wa Q S (bxk b z sI (oC z (oC (oS (ak s)) oN)) fun c2 b=>nt (ww (mF z fI (mL z (b.bc0 z) (mb z (bs c ?_ ?_))))))
 {
 refine fun d c=>gv (h) d z (gi d z (gg d (aJ z z uI sI b.sv2 u x) (gg d (xL z (b.ol2 y riA)) (gv (F6 _) d z (gv (F6 _) d z ?_)))))
 refine bk c fun c3 T c=>dh ((av z z z (cvb d)).trans z) z (gO call153 z (vs:=[F6 k,F6 a1,F6 a2]) z) (kcO (ve b.to0 T) fun c4 b=>mb (bi d z z) (nt (bw c z ?_ ?_)))
 {
 refine fun U c=>rg b 11 [0,0,0,6,14,0,32,126,254,511,1023] [10] mixed (wsr (f) 0 rfl rfl rfl krA (fun w b=>rfl) (wsr (h) 1 rfl rfl rfl krA (fun w b=>rfl) (wsr (.int .i64 p) 2 rfl rfl rfl krA (fun w b=>rfl) (wsr (.pointer (some (eZ h (p.toNat*1+0)))) 3 rfl rfl rfl krA (fun w b=>aJ rfl rfl uI sI b.sv2 u x) (wsr (.float .f64 k) 4 rfl rfl rfl krA (fun w b=>xL z (b.ol2 y riA)) (wsr (Pt P 1) 5 rfl rfl rfl krA (fun w b=>xF z fI z) (wsr (A) 6 rfl rfl rfl krA (fun w b=>xL z (b.bc0 rfl)) (wsr (.agg #[F6 k,A]) 7 rfl rfl rfl krA (fun w b=>by obtain ⟨_,_,hv_,_⟩:=(ak s); rw [hv_]; kernel_rfl) (e1 8 z z fun w b=>?_)))))))))
 obtain ⟨V,W,X,Y,b⟩:=b.lits (E:=aH) (xs:=[({At:=k,Val:=G.Val}:bP)]) [[F6 k,A]] 152 1 z (bT.cons ⟨_,z,s,oS (ak s)⟩ bT.nil)
 refine cj (v:=(.slice (some ⟨V,0,none⟩) 1 1)) (w':=W) z (dH krA X Y) (wn [0] b (pz aT) (e1 9 z z fun w b=>?_))
 obtain ⟨Z,c⟩:=cF c
 replace b:=b.aD
 obtain ⟨B,b0,b1,b⟩:=bO Ak underlying81 b b.iL (cP Z z) 81
 refine cj (v:=B) (w':=b0) z (ck z z b1) (w0n b (e1 10 z z fun w b=>cj (v:=B) (w':=w) z z (w0n b (bt ?_))))
 refine fun w b=>bJ (tn (wrl (mi z (mi z (mi z (nt ?_))))))
 cases c
 exact ⟨_,nls,_,(o++([({At:=k,Val:=G.Val}:bP)])),_,B,q,fy z,j,b.aA.ah.cv⟩
}
 refine fun U c=>al (bJ (tn (wrl (mi z (mi z (mi z (nt ?_)))))))
 cases c
 exact ⟨_,nls,_,o,_,f,q,fy z,j,b.aD.aD.cv⟩
}
 refine fun d c=>go d (go d (go d (go d (go d (go d (go d (mb (aL d z z) (nt (cJ z (al (bJ (tn (wrl (mi z (mi z (mi z (nt ?_)))))))))))))))))
 cases c
 exact ⟨_,nls,_,o,_,f,q,fy z,j,b.aD.aD.cv⟩
}
 refine fun L c=>bH (aQ (aQ ?_))
 replace c:=bz c q
 refine cZ (tn (ww (mv (f) z (mv (f) z (nt (ar ?_))))))
 cases c
 exact dI [f] z (rc z bl) ⟨_,f,z,m,b.bF⟩
}
 refine fun g c=>go g (go g (go g (go g (mb (aL g z z) (nt (cJ z (bH (aQ (aQ ?_)))))))))
 replace c:=bz c q
 refine cZ (tn (ww (mv (f) z (mv (f) z (nt (ar ?_))))))
 cases c
 exact dI [f] z (rc z bl) ⟨_,f,z,m,b.bF⟩
}
theorem wJ {a0:aq} {p0:Value} {a1:aw} {g h j k:Value} (s:Rd cp R I g a1.dO) (d:Rd fU R I h a1.aX) (g5:Rd cp R I j a1.dD) (g6:Rd (cr .u8) R I k a1.Data) (b:St w0 w I [bm p0 a0] R) {r:(bB)} (c:kZ a0 a1=some r) :
  Calls prog 34 #[p0,.agg #[U6 a1.ID.ab,U6 a1.ID.Seq,U6 a1.ae,g,h,j,k]] w fun e w'=>∃ (I':HL) (b0:Value) (b1:Value),e = .returned (.agg #[I6 r.E,U6 r.ae,U6 r.Index,b0,b1])∧I.le I'∧St w0 w' I' [bp aK b0 r.dT,bp (eC aH) b1 r.aX,bm p0 a0] R:=by {
 unfold kZ at c
 refine c0 func34 z z ?_
 have t:=HL.le.refl I
 refine ww ?_
 obtain ⟨l,g7,c2,c3,b⟩:=b.box [U6 a1.ID.ab,U6 a1.ID.Seq,U6 a1.ae,g,h,j,k] 46
 refine wa c2 c3 ?_
 obtain ⟨m,g8,c4,c5,b⟩:=b.box [Zi,Zu,Zu,Zs,Zs] 33
 refine wa c4 c5 (nt (ww (mk (.agg #[Zi,Zu,Zu,Zs,Zs]) ?_)))
 obtain ⟨o,g9,c6,c7,b⟩:=b.box [Zi,Zu,Zu,Zs,Zs] 33
 refine wa c6 c7 (bxk b z sI (oJ 5 z oN) fun h0 b=>nt ?_)
 obtain ⟨c8,c,c9⟩:=bn c
 refine cR (fun a w=>∃ (H:HL) (u:(List cC)) (p:Value),(mP a1 a0) u=some r∧fz 61 [0,3,4,5] [p0,Pt l 0,Pt m 0,Pt o 0] a∧I.le H∧St w0 w H [bm p0 a0,cells l [U6 a1.ID.ab,U6 a1.ID.Seq,U6 a1.ae,g,h,j,k],cells m [Zi,Zu,Zu,Zs,Zs],cells o [Zi,Zu,Zu,p,Zs],bp aK p u] R) ?_ ?_
 {
 have N:=HL.le.refl I
 refine ww (mi z (nt (au ?_)))
 replace b:=b.ba aK
 obtain ⟨d0,c⟩:=aS c
 refine bg (fun n a w=>∃ (O:HL) (x:(List cC)) (P:Int) (J:Value),cU (jd a1 a0) n (x,P)=some c8∧fz 61 [0,3,4,5,6] [p0,Pt l 0,Pt m 0,Pt o 0,I6 P] a∧I.le O∧St w0 w O [bp aK J x,cells o [Zi,Zu,Zu,J,Zs],cells m [Zi,Zu,Zu,Zs,Zs],cells l [U6 a1.ID.ab,U6 a1.ID.Seq,U6 a1.ae,g,h,j,k],bm p0 a0] R) d0 ⟨_,[],0,Zs,c,fy z,lr,b⟩ ?_
 rintro h1 _ h2 ⟨O,x,P,J,c,⟨h3,rfl⟩,y,b⟩
 obtain ⟨h4,h5,rfl,c,b2⟩:=aU c
 dsimp only [jd] at c
 replace s:=s.mono (qK y)
 replace N:=N.trans y
 refine aj (ww (mi z (mF z fI (mL z (b.bc3 z) (mz (bX z uI (ay s)) (mb z (nt (bw c z ?_ ?_))))))))
 {
 refine fun d1 c=>al (tn (aj (au ?_)))
 obtain ⟨d2,d3,h6,h7,h8,h9,i0,i1,⟨rfl,K,Q,S,T⟩,d4⟩:=bS b.bj
 have b:=d4
 refine rg b 16 [0,1,0,4,12,28,0,64,0,448,960,2044,4092,8191,16383,32767] [] mixed (sF 0 z z fI (sL 1 z z (·.bc5 z) (sp 2 z z (sp 3 z z (sF 4 z z fI (sL 5 z z (·.bc0 z) (sF 6 z z fI (sL 7 z z (·.bc7 z) (si 8 z z ?_)))))))))
 obtain ⟨d5,d6,c⟩:=bn c
 obtain ⟨d7,d8,d9⟩:=aV d6
 refine sh _ 9 z (fun w b=>aJ z z uI sI (ay s) d7 d8) (sL 10 z z (fun b=>fb s lr b d9 riA) (e1 11 z z fun w b=>?_))
 refine bk c fun U e0 c=>wec call80 [d3,F6 d5,U6 18446744073709551615] z z ((kS K b.to0 e0).mono ?_)
 rintro _ i2 ⟨i3,e2,rfl,A,b3,b⟩
 refine ⟨_,z,?_⟩
 replace b:=b.of0
 replace K:=K.mono (ro_le A)
 replace Q:=Q.mono (ro_le A)
 replace S:=S.mono (ro_le A)
 replace T:=T.mono (ro_le A)
 replace y:=y.trans A
 refine wn [1,0] b (pL z z (·.bc5 z) (pF z z fI aT)) (e1 12 z z fun w b=>?_)
 obtain ⟨e3,e4,e5,e6,b⟩:=b.lits (E:=aK) (xs:=[U]) [[.bool U.Has,e2]] 61 1 z (bT.cons ⟨_,z,b3,oS (ak b3)⟩ bT.nil)
 refine cj (v:=(.slice (some ⟨e3,0,none⟩) 1 1)) (w':=e4) z (dH krA e5 e6) (wn [1,0] b (pL z z (·.bc6 z) (pF z z fI aT)) (e1 13 z z fun w b=>?_))
 obtain ⟨e7,c⟩:=cF c
 replace b:=b.bq
 obtain ⟨V,e8,e9,b⟩:=bO Af underlying30 b b.iL (cP e7 z) 30
 refine cj (v:=V) (w':=e8) z (ck z z e9) (w0n b (sF 14 z z fI (e1 15 z z fun w b=>?_)))
 replace b:=b.de
 refine b1e V b z (oS b.sv1) sI fun i4 b=>w0n b (bt ?_)
 refine fun w b=>bJ (tn (wrl (mi z (mi z (mi z (nt ?_))))))
 cases c
 exact ⟨_,nls,_,(x++([U])),_,V,b2,fy z,y,(aC (Pt d2 0) a0 b.de.de.de.de ⟨z,K,Q,S,T⟩).bq.bq.aA.bj.oB⟩
}
 refine fun d1 c=>bH (aQ (aQ ?_))
 replace c:=bz c b2
 refine cZ (tn ?_)
 obtain rfl:=sj c
 exact ⟨_,x,J,c9,fy z,N,b.ah.aD.aA.bj.oB⟩
}
 rintro _ i5 ⟨H,u,p,c,⟨i6,rfl⟩,b4,b⟩
 dsimp only [mP] at c
 replace d:=d.mono (qK b4)
 replace t:=t.trans b4
 refine aj (ww (mi z (nt (au ?_))))
 replace b:=b.ba (eC aH)
 obtain ⟨f0,c⟩:=aS c
 refine bg (fun n a w=>∃ (W:HL) (L:(List (List bP))) (X:Int) (M:Value),cU (gT a1 a0 u) n (L,X)=some r∧fz 61 [0,3,4,5,7] [p0,Pt l 0,Pt m 0,Pt o 0,I6 X] a∧H.le W∧St w0 w W [bp (eC aH) M L,bm p0 a0,cells l [U6 a1.ID.ab,U6 a1.ID.Seq,U6 a1.ae,g,h,j,k],cells m [Zi,Zu,Zu,Zs,Zs],cells o [Zi,Zu,Zu,p,M],bp aK p u] R) f0 ⟨_,[],0,Zs,c,fy z,lr,b⟩ ?_
 rintro i7 _ i8 ⟨W,L,X,M,c,⟨i9,rfl⟩,f,b⟩
 obtain ⟨j0,j1,rfl,c,b5⟩:=aU c
 dsimp only [gT] at c
 replace d:=d.mono (qK f)
 replace t:=t.trans f
 refine aj (ww (mi z (mF z fI (mL z (b.bc2 z) (mz (bX z uI (ay d)) (mb z (nt (bw c z ?_ ?_))))))))
 {
 refine fun f1 c=>al (tn (aj (au ?_)))
 obtain ⟨f2,f3,j2,j3,j4,j5,j6,j7,⟨rfl,q,B,C,D⟩,f4⟩:=bS b.ah
 have b:=f4
 refine rg b 23 [0,1,0,4,12,28,0,64,0,448,960,1984,0,4096,0,28672,61440,126976,262140,524284,1048575,2097151,4194303] [] mixed (sF 0 z z fI (sL 1 z z (·.bc7 z) (sp 2 z z (sp 3 z z (sF 4 z z fI (sL 5 z z (·.bc0 z) (sF 6 z z fI (sL 7 z z (·.bc5 z) (si 8 z z ?_)))))))))
 obtain ⟨b6,f5,c⟩:=bn c
 obtain ⟨b7,b8,b9⟩:=aV f5
 refine sh _ 9 z (fun w b=>aJ z z uI sI (ay d) b7 b8) (sh (.pointer (some _)) 10 z (fun w b=>kP (i:=0) z z uI sI deA deA z) (sL 11 z z (fun b=>fb d lr b b9 riA) (sF 12 z z fI (sL 13 z z (·.bc5 z) (si 14 z z (sh _ 15 z (fun w b=>aJ z z uI sI (ay d) b7 b8) (sh (.pointer (some _)) 16 z (fun w b=>kP (i:=1) z z uI sI deA deA z) (sL 17 z z (fun b=>fb d lr b b9 riA) (e1 18 z z fun w b=>?_)))))))))
 refine bk c fun c1 f6 c=>wec call81 [f3,F6 b6.1,F6 b6.2,U6 18446744073709551615,I6 64] z z ((AD q b.to0 f6).mono ?_)
 rintro _ j8 ⟨j9,f7,rfl,F,b⟩
 refine ⟨_,z,?_⟩
 replace b:=b.of1
 replace q:=q.mono (ro_le F)
 replace B:=B.mono (ro_le F)
 replace C:=C.mono (ro_le F)
 replace D:=D.mono (ro_le F)
 replace f:=f.trans F
 refine wn [1,0] b (pL z z (·.bc8 z) (pF z z fI aT)) (e1 19 z z fun w b=>?_)
 obtain ⟨k0,G,Y,b⟩:=b.cO
 replace q:=q.mono (ro_le G)
 replace B:=B.mono (ro_le G)
 replace C:=C.mono (ro_le G)
 replace D:=D.mono (ro_le G)
 replace f:=f.trans G
 obtain ⟨f8,f9,g0,g1,b⟩:=b.lits (E:=(eC aH)) (xs:=[c1]) [[f7]] 81 1 z (bT.cons ⟨_,z,Y,oS (ak Y)⟩ bT.nil)
 refine cj (v:=(.slice (some ⟨f8,0,none⟩) 1 1)) (w':=f9) z (dH (by obtain ⟨_,_,hv_,_⟩:=(ak Y); rw [hv_]; kernel_rfl) g0 g1) (wn [1,0] b (pL z z (·.bc8 z) (pF z z fI aT)) (e1 20 z z fun w b=>?_))
 obtain ⟨g2,c⟩:=cF c
 replace b:=b.bq
 obtain ⟨Z,g3,g4,b⟩:=bO Ai underlying31 b b.iL (cP g2 z) 31
 refine cj (v:=Z) (w':=g3) z (ck z z g4) (w0n b (sF 21 z z fI (e1 22 z z fun w b=>?_)))
 replace b:=b.bM
 refine b1e Z b z (oS b.sv1) sI fun k1 b=>w0n b (bt ?_)
 refine fun w b=>bJ (tn (wrl (mi z (mi z (mi z (nt ?_))))))
 cases c
 exact ⟨_,nls,_,(L++([c1])),_,Z,b5,fy z,f,(aC (Pt f2 0) a0 b.de.de.de.de ⟨z,q,B,C,D⟩).de.aD.de.de.bj.bq.lh⟩
}
 refine fun f1 c=>bH (aQ (aQ ?_))
 replace c:=bz c b5
 refine cZ (tn (ww (mz (xN z (b.BI 0 tz)) ?_)))
 replace b:=b.aA
 refine bxk b z sI (oJ 3 z (oC (oS b.sv5) (oC (oS b.sv1) oN))) fun k2 b=>nt (ar ?_)
 cases c
 exact prI z (rN z (b.fm 0 tz)) ⟨_,p,M,z,t,b.aD.aD.bq.eu⟩
}
theorem Bz {a0:(List aP)} {h:Value} {a1:aP} {l:Value} (i:Ro dK I h a0) (Q:Ro (cr .u8) I l a1.Val) (b:St w0 w I [] R) {r:((List aP))} (c:rX a0 a1=some r) :
  Calls prog 72 #[h,.agg #[F6 a1.At,U6 a1.ae,U6 a1.Index,.bool a1.Del,l]] w fun e w'=>∃ (L:Value),e = .returned (L)∧St w0 w' I [bp dK L r] R:=by {
 unfold rX at c
 refine c0 func72 z z (ww ?_)
 obtain ⟨m,e8,S,T,b⟩:=b.box [F6 a1.At,U6 a1.ae,U6 a1.Index,.bool a1.Del,l] 139
 refine wa S T (mv ((.slice none 0 0)) z (nt (ww (mv ((.slice none 0 0)) z (nt ?_)))))
 obtain ⟨U,c,V⟩:=bn c
 refine cR (fun a w=>∃ (t:(List aP)) (p:Value),(tA a1) t=some r∧fz 56 [3,5] [Pt m 0,p] a∧St w0 w I [cells m [F6 a1.At,U6 a1.ae,U6 a1.Index,.bool a1.Del,l],bp dK p t] R) ?_ ?_
 {
 refine ww (mi z (nt (au ?_)))
 replace b:=b.ba dK
 obtain ⟨W,c⟩:=aS c
 refine bg (fun n a w=>∃ (j:(List aP)) (F:Int) (k:Value),cU (pD a0 a1) n (j,F)=some U∧fz 56 [0,3,5,6] [h,Pt m 0,k,I6 F] a∧St w0 w I [bp dK k j,cells m [F6 a1.At,U6 a1.ae,U6 a1.Index,.bool a1.Del,l]] R) W ⟨[],0,Zs,c,fy z,b⟩ ?_
 rintro e9 _ f0 ⟨j,F,k,c,⟨f1,rfl⟩,b⟩
 obtain ⟨f2,f3,rfl,c,u⟩:=aU c
 dsimp only [pD] at c
 refine aj (ww (mi z (mv (h) z (mz (bX z uI (ak i)) (mb z (nt (bw c z ?_ ?_)))))))
 {
 refine fun X c=>al (tn (aj (au (aj (rg b 29 [0,0,3,7,15,0,32,127,255,511,1023,1023,4095,8191,16383,1023,33791,131071,262143,524287,1048575,1048575,4194303,8388607,16777215,1048575,34603007,134217727,268435455] [] mixed (sz (h) 0 z z (si 1 z z ?_)))))))
 obtain ⟨d,Y,c⟩:=bn c
 obtain ⟨q,s,G⟩:=aV Y
 refine sh _ 2 z (fun w b=>aJ z z uI sI (ak i) q s) (sh _ 3 z (fun w b=>xG z fI z) ?_)
 obtain ⟨f4,Z,b0⟩:=Ro.lC i G
 obtain ⟨f5,rfl,f6,-⟩:=Z
 refine sL 4 z z (fun b=>(b0 lr b) 0 _ z) (sF 5 z z fI (sL 6 z z (·.bc1 z) (e1 7 z z fun w b=>bk c fun f7 b1 c=>wec call20 [F6 d.At,F6 a1.At] z z (kcO (fL b.to0 b1) fun f8 b=>w0n b (sb 8 z z (sb 9 z z (bs c ?_ ?_)))))))
 {
 refine fun f c=>so 10 z f (so 11 z f (so 12 z f (so 13 z f (so 14 z f (so 15 z f (so 16 z f (so 17 z f (sh (.bool _) 18 z (fun w b=>bi f z z) (sb 19 z z (sq 20 z (sq 21 z (sq 22 z (sq 23 z (sq 24 z (sq 25 z (sq 26 z (sq 27 z (sh (.bool _) 28 z (fun w b=>bi z z z) (bt ?_)))))))))))))))))))
 refine fun w b=>tn (eG z (wrl (mv (k) z (mv (h) z (mi z (mz (aJ z z uI sI (ak i) q s) ?_))))))
 obtain ⟨f9,b2,b3⟩:=Ro.lC i G
 obtain ⟨M,rfl,N,-⟩:=b2
 refine mz (xN (cs:=[F6 d.At,U6 d.ae,U6 d.Index,.bool d.Del,M]) z (et (o:=0) (b3 lr b) z)) ?_
 obtain ⟨b4,b5,b6,b7,b⟩:=b.lits (E:=dK) (xs:=[d]) [[F6 d.At,U6 d.ae,U6 d.Index,.bool d.Del,M]] 139 1 z (bT.cons ⟨_,z,N,oS (ak N)⟩ bT.nil)
 refine cK (v:=(.slice (some ⟨b4,0,none⟩) 1 1)) (w':=b5) z z (dH krA b6 b7) ?_
 obtain ⟨b8,c⟩:=cF c
 replace b:=b.ah
 obtain ⟨H,b9,c1,b⟩:=bO yK underlying124 b b.iL (cP b8 z) 124
 refine cK (v:=H) (w':=b9) z z (ck z z c1) (mv (H) z (dv (bJ (tn (wrl (mi z (mi z (mi z (nt ?_)))))))))
 cases c
 exact ⟨_,nls,(j++([d])),_,H,u,fy z,b.aD.ah.cv⟩
}
 refine fun f c=>sgz h 10 z f z (sgz (I6 _) 11 z f z (sg _ 12 z f (fun w b=>aJ z z uI sI (ak i) q s) (sg _ 13 z f (fun w b=>xG z fI z) ?_)))
 obtain ⟨g0,c2,x⟩:=Ro.lC i G
 obtain ⟨y,rfl,A,-⟩:=c2
 refine sg _ 14 z f (fun w b=>xL z ((x lr b) 1 _ z)) (sg _ 15 z f (fun w b=>xF z fI z) (sg _ 16 z f (fun w b=>xL z (b.bc1 z)) (sgz (.bool _) 17 z f z (sh (.bool _) 18 z (fun w b=>aL f z z) (sb 19 z z (bs c ?_ ?_))))))
 {
 refine fun g c=>so 20 z g (so 21 z g (so 22 z g (so 23 z g (so 24 z g (so 25 z g (so 26 z g (so 27 z g (sh (.bool _) 28 z (fun w b=>bi g z z) (bt ?_)))))))))
 refine fun w b=>tn (eG z (wrl (mv (k) z (mv (h) z (mi z (mz (aJ z z uI sI (ak i) q s) (mz (xN (cs:=[F6 d.At,U6 d.ae,U6 d.Index,.bool d.Del,y]) z (et (o:=0) (x lr b) z)) ?_)))))))
 obtain ⟨c3,c4,c5,c6,b⟩:=b.lits (E:=dK) (xs:=[d]) [[F6 d.At,U6 d.ae,U6 d.Index,.bool d.Del,y]] 139 1 z (bT.cons ⟨_,z,A,oS (ak A)⟩ bT.nil)
 refine cK (v:=(.slice (some ⟨c3,0,none⟩) 1 1)) (w':=c4) z z (dH krA c5 c6) ?_
 obtain ⟨c7,c⟩:=cF c
 replace b:=b.ah
 obtain ⟨J,c8,c9,b⟩:=bO yK underlying124 b b.iL (cP c7 z) 124
 refine cK (v:=J) (w':=c8) z z (ck z z c9) (mv (J) z (dv (bJ (tn (wrl (mi z (mi z (mi z (nt ?_)))))))))
 cases c
 exact ⟨_,nls,(j++([d])),_,J,u,fy z,b.aD.ah.cv⟩
}
 refine fun g c=>sgz h 20 z g z (sgz (I6 _) 21 z g z (sg _ 22 z g (fun w b=>aJ z z uI sI (ak i) q s) (sg _ 23 z g (fun w b=>xG z fI z) (sg _ 24 z g (fun w b=>xL z ((x lr b) 2 _ z)) (sg _ 25 z g (fun w b=>xF z fI z) (sg _ 26 z g (fun w b=>xL z (b.bc1 z)) (sgz (.bool _) 27 z g z (sh (.bool _) 28 z (fun w b=>aL g z z) (bt ?_)))))))))
 refine fun w b=>tn (bw c z ?_ ?_)
 {
 refine fun d0 c=>wrl (mv (k) z (mv (h) z (mi z (mz (aJ z z uI sI (ak i) q s) (mz (xN (cs:=[F6 d.At,U6 d.ae,U6 d.Index,.bool d.Del,y]) z (et (o:=0) (x lr b) z)) ?_)))))
 obtain ⟨d1,d2,d3,d4,b⟩:=b.lits (E:=dK) (xs:=[d]) [[F6 d.At,U6 d.ae,U6 d.Index,.bool d.Del,y]] 139 1 z (bT.cons ⟨_,z,A,oS (ak A)⟩ bT.nil)
 refine cK (v:=(.slice (some ⟨d1,0,none⟩) 1 1)) (w':=d2) z z (dH krA d3 d4) ?_
 obtain ⟨d5,c⟩:=cF c
 replace b:=b.ah
 obtain ⟨K,d6,d7,b⟩:=bO yK underlying124 b b.iL (cP d5 z) 124
 refine cK (v:=K) (w':=d6) z z (ck z z d7) (mv (K) z (dv (bJ (tn (wrl (mi z (mi z (mi z (nt ?_)))))))))
 cases c
 exact ⟨_,nls,(j++([d])),_,K,u,fy z,b.aD.ah.cv⟩
}
 refine fun d0 c=>al (bJ (tn (wrl (mi z (mi z (mi z (nt ?_)))))))
 cases c
 exact ⟨_,nls,j,_,k,u,fy z,b.ah.ah.cv⟩
}
 refine fun X c=>bH (aQ (aQ ?_))
 replace c:=bz c u
 refine cZ (tn ?_)
 obtain rfl:=sj c
 exact ⟨j,k,V,fy z,b.ah.cv⟩
}
 rintro _ g1 ⟨t,p,c,⟨g2,rfl⟩,b⟩
 dsimp only [tA] at c
 obtain ⟨g3,c,O⟩:=bn c
 refine cR (fun a w=>∃ (B:(List Int)) (C:Value),(tx t a1) B=some r∧fz 56 [3,5] [Pt m 0,p] a∧Ro (cr .u8) I C B∧St w0 w I [cells m [F6 a1.At,U6 a1.ae,U6 a1.Index,.bool a1.Del,C],bp dK p t] R) ?_ ?_
 {
 refine ww (mF z fI (mL z (b.bc0 z) (nt (bw c z ?_ ?_))))
 {
 refine fun d8 c=>wrl (mF z fI (byk (.slice none 0 0) b z sI (oC z oN) fun g4 b=>nt ?_))
 have d9:Ro (cr .u8) I (.slice none 0 0) []:=dc
 cases c
 exact ⟨([]),Zs,O,fy z,d9,b.ah.ah.cv⟩
}
 refine fun d8 c=>al (tn ?_)
 cases c
 exact ⟨_,l,O,fy z,Q,b.ah.ah.cv⟩
}
 rintro _ g5 ⟨B,C,c,⟨g6,rfl⟩,P,b⟩
 dsimp only [tx] at c
 refine ww (mv (p) z (mz (xN z (b.fm 0 tz)) ?_))
 obtain ⟨e0,e2,e3,e4,b⟩:=b.lits (E:=dK) (xs:=[({a1 with Val:=B}:aP)]) [[F6 a1.At,U6 a1.ae,U6 a1.Index,.bool a1.Del,C]] 139 1 z (bT.cons ⟨_,z,P,oS (ak P)⟩ bT.nil)
 refine cK (v:=(.slice (some ⟨e0,0,none⟩) 1 1)) (w':=e2) z z (dH krA e3 e4) ?_
 obtain ⟨e5,c⟩:=cF c
 replace b:=b.aD
 obtain ⟨D,e6,e7,b⟩:=bO yK underlying124 b b.iL (cP e5 z) 124
 refine cK (v:=D) (w':=e6) z z (ck z z e7) (mv (D) z (nt (ar ?_)))
 cases c
 exact dI [D] z (rc z bl) ⟨D,z,b.bF⟩
}
theorem pp {a0:(List dg)} {d:Value} {a1:Int} (g:Ro fK I d a0) (c:St w0 w I [] R) {r:(dg)} (b:kr a0 a1=some r) :
  Calls prog 93 #[d,U6 a1] w fun e w'=>∃ (I':HL) (j:Value) (k:Value),e = .returned (.agg #[U6 r.ab,U6 r.Seq,I6 r.R.E,U6 r.R.ae,U6 r.R.Index,j,k])∧I.le I'∧Ro aK I' j r.R.dT∧Ro (eC aH) I' k r.R.aX∧St w0 w' I' [] R:=by {
 unfold kr at b
 refine c0 func93 z z ?_
 have l:=HL.le.refl I
 refine ww ?_
 obtain ⟨m,L,y,A,c⟩:=c.box [Zu,Zu,Zi,Zu,Zu,Zs,Zs] 164
 refine wa y A (nt (aj (ww (mi z (nt (au ?_))))))
 obtain ⟨B,b⟩:=aS b
 refine bg (fun n a w=>∃ (h:Int),cU (mC a0 a1) n h=some r∧fz 25 [0,1,4,5] [d,U6 a1,Pt m 0,I6 h] a∧St w0 w I [cells m [Zu,Zu,Zi,Zu,Zu,Zs,Zs]] R) B ⟨0,b,fy z,c⟩ ?_
 rintro M _ N ⟨h,b,⟨O,rfl⟩,c⟩
 obtain ⟨P,Q,rfl,b,i⟩:=aU b
 dsimp only [mC] at b
 refine aj (ww (mi z (mv (d) z (mz (bX z uI (ak g)) (mb z (nt (bw b z ?_ ?_)))))))
 {
 refine fun C b=>al (tn (aj (au (ww (mv (d) z (mi z ?_))))))
 obtain ⟨f,D,b⟩:=bn b
 obtain ⟨p,q,F⟩:=aV D
 refine mz (aJ z z uI sI (ak g) p q) (mz (xG z fI z) ?_)
 obtain ⟨S,G,s⟩:=Ro.lC g F
 obtain ⟨t,u,rfl,v,x,-⟩:=G
 refine mL z ((s lr c) 0 _ z) (mi z (mb z (nt (bw b z ?_ ?_))))
 {
 refine fun H b=>ww (mv (d) z (mi z (mz (aJ z z uI sI (ak g) p q) (mz (xN (cs:=[U6 f.ab,U6 f.Seq,I6 f.R.E,U6 f.R.ae,U6 f.R.Index,t,u]) z (et (o:=0) (s lr c) z)) (bxk c z sI (oJ 5 z (oC (oS (ak v)) (oC (oS (ak x)) oN))) fun T c=>nt (ar (eo (bh (bh ?_)))))))))
 replace b:=bz b i
 refine eo (bh ?_)
 obtain rfl:=sj b
 exact prI z (rN z (c.fm 0 tz)) ⟨_,t,u,z,l,v,x,c.cT⟩
}
 refine fun H b=>al (bJ (tn (wrl (mi z (mi z (mi z (nt ?_)))))))
 cases b
 exact ⟨_,nls,_,i,fy z,c.bF⟩
}
 refine fun C b=>bH (aQ (aQ ?_))
 replace b:=bz b i
 refine cZ (tn (ww (mi z (mk (.agg #[U6 a1,Zu,Zi,Zu,Zu,Zs,Zs]) (bxk c z sI (oJ 7 z oN) fun U c=>nt (ar ?_))))))
 have J:Ro aK I (.slice none 0 0) []:=dc
 have K:Ro (eC aH) I (.slice none 0 0) []:=dc
 cases b
 exact prI z (rN z (c.fm 0 tz)) ⟨_,Zs,Zs,z,l,J,K,c.cT⟩
}
theorem wI {a0:(List dg)} {d:Value} {a1 a2:Int} {a3:bB} {j k:Value} (g:Ro fK I d a0) (l:Ro aK I j a3.dT) (m:Ro (eC aH) I k a3.aX) (c:St w0 w I [] R) {r:((List dg)×Int)} (b:qw a0 a1 a2 a3=some r) :
  Calls prog 151 #[d,U6 a1,U6 a2,.agg #[I6 a3.E,U6 a3.ae,U6 a3.Index,j,k]] w fun e w'=>∃ (I':HL) (y:Value),e = .returned (.tuple #[y,I6 r.2])∧I.le I'∧Ro fK I' y r.1∧St w0 w' I' [] R:=by {
 unfold qw at b
 refine c0 func151 z z ?_
 have i:=HL.le.refl I
 refine ww ?_
 obtain ⟨c2,c3,J,K,c⟩:=c.box [I6 a3.E,U6 a3.ae,U6 a3.Index,j,k] 33
 refine wa J K (mv ((.slice none 0 0)) z (mi z (nt (aj (ww (mi z (mb z (nt (bw b z ?_ ?_)))))))))
 {
 refine fun L b=>ww (mv (d) z (mv (d) z (mi z (nt (ar (bh ?_))))))
 cases b
 exact dI [d,I6 1] z (rc z (rc z bl)) ⟨_,d,z,i,g,c.cT⟩
}
 refine fun L b=>al (tn (aj (ww (mv (d) z (mi z (bk b fun M N b=>wc call93 [d,U6 a1] z z z ((pp g c.to0 N).mono ?_)))))))
 rintro _ c4 ⟨O,c5,c6,rfl,q,P,Q,c⟩
 refine ⟨_,z,?_⟩
 replace c:=c.of0
 replace g:=g.mono (ro_le q)
 replace l:=l.mono (ro_le q)
 replace m:=m.mono (ro_le q)
 replace i:=i.trans q
 refine wv (.int .u64 M.Seq) z z (by obtain ⟨_,_,hv_,_⟩:=(ak Q); rw [hv_]; obtain ⟨_,_,hv_,_⟩:=(ak P); rw [hv_]; kernel_rfl) (mi z (mb z (nt (bw b z ?_ ?_))))
 {
 refine fun S b=>ww (mv (d) z (mv (d) z (mi z (nt (ar (bh ?_))))))
 cases b
 exact dI [d,I6 10] z (rc z (rc z bl)) ⟨_,d,z,i,g,c.cT⟩
}
 refine fun S b=>al (tn (ww (mi z (mi z (mz (xN z (c.fm 0 tz)) (wv (.agg #[U6 a1,U6 a2,I6 a3.E,U6 a3.ae,U6 a3.Index,j,k]) z z (by obtain ⟨_,_,hv_,_⟩:=(ak m); rw [hv_]; obtain ⟨_,_,hv_,_⟩:=(ak l); rw [hv_]; kernel_rfl) ?_))))))
 obtain ⟨s,T,U,V,c⟩:=c.lits (E:=fK) (xs:=[({ab:=a1,Seq:=a2,R:=a3}:dg)]) [[U6 a1,U6 a2,I6 a3.E,U6 a3.ae,U6 a3.Index,j,k]] 164 1 z (bT.cons ⟨_,_,z,l,m,oS (ak l),oS (ak m)⟩ bT.nil)
 refine cK (v:=(.slice (some ⟨s,0,none⟩) 1 1)) (w':=T) z z (dH krA U V) (mv ((.slice (some ⟨s,0,none⟩) 1 1)) z (nt (aj (ww (mi z (nt (au ?_)))))))
 replace c:=c.ah.sub
 obtain ⟨W,b⟩:=aS b
 refine bg (fun n a w=>∃ (p:(List dg)) (t:Int) (h:Value),cU (kM a0 a1) n (p,t)=some r∧fz 48 [0,1,10,11] [d,U6 a1,h,I6 t] a∧St w0 w O [bp fK h p] R) W ⟨[({ab:=a1,Seq:=a2,R:=a3}:dg)],0,(.slice (some ⟨s,0,none⟩) 1 1),b,fy z,c⟩ ?_
 rintro c7 _ c8 ⟨p,t,h,b,⟨c9,rfl⟩,c⟩
 obtain ⟨d0,d1,rfl,b,u⟩:=aU b
 dsimp only [kM] at b
 refine aj (ww (mi z (mv (d) z (mz (bX z uI (ak g)) (mb z (nt (bw b z ?_ ?_)))))))
 {
 refine fun X b=>al (tn (aj (au (ww (mv (d) z (mi z ?_))))))
 obtain ⟨f,Y,b⟩:=bn b
 obtain ⟨A,B,Z⟩:=aV Y
 refine mz (aJ z z uI sI (ak g) A B) (mz (xG z fI z) ?_)
 obtain ⟨d2,b0,C⟩:=Ro.lC g Z
 obtain ⟨D,F,rfl,G,H,-⟩:=b0
 refine mL z ((C lr c) 0 _ z) (mi z (mb z (nt (bw b z ?_ ?_))))
 {
 refine fun b1 b=>wrl (mv (h) z (mv (d) z (mi z (mz (aJ z z uI sI (ak g) A B) (mz (xN (cs:=[U6 f.ab,U6 f.Seq,I6 f.R.E,U6 f.R.ae,U6 f.R.Index,D,F]) z (et (o:=0) (C lr c) z)) ?_)))))
 obtain ⟨b2,b3,b4,b5,c⟩:=c.lits (E:=fK) (xs:=[f]) [[U6 f.ab,U6 f.Seq,I6 f.R.E,U6 f.R.ae,U6 f.R.Index,D,F]] 164 1 z (bT.cons ⟨_,_,z,G,H,oS (ak G),oS (ak H)⟩ bT.nil)
 refine cK (v:=(.slice (some ⟨b2,0,none⟩) 1 1)) (w':=b3) z z (dH krA b4 b5) ?_
 obtain ⟨b6,b⟩:=cF b
 replace c:=c.ah
 obtain ⟨x,b7,b8,c⟩:=bO HO underlying126 c c.iL (cP b6 z) 126
 refine cK (v:=x) (w':=b7) z z (ck z z b8) (mv (x) z (dv (bJ (tn (wrl (mi z (mi z (mi z (nt ?_)))))))))
 cases b
 exact ⟨_,nls,(p++([f])),_,x,u,fy z,c.bF⟩
}
 refine fun b1 b=>al (bJ (tn (wrl (mi z (mi z (mi z (nt ?_)))))))
 cases b
 exact ⟨_,nls,p,_,h,u,fy z,c.bF⟩
}
 refine fun X b=>bH (aQ (aQ ?_))
 replace b:=bz b u
 refine cZ (tn (ww (mv (h) z (mv (h) z (mi z (nt (ar ?_)))))))
 obtain ⟨d3,b9,c1,c⟩:=c.cO
 replace i:=i.trans b9
 cases b
 exact dI [h,Zi] z (rc z (rc z bl)) ⟨_,h,z,i,c1,c.cT⟩
}
theorem rC {a0:aq} {p0:Value} {a1:cy} (b:St w0 w I [bm p0 a0] R) {r:(aq)} (c:iu a0 a1=some r) :
  Calls prog 74 #[p0,.agg #[U6 a1.ab,U6 a1.Seq]] w fun e w'=>e = .returned (.tuple #[])∧St w0 w' I [bm p0 r] R:=by {
 unfold iu at c
 refine c0 func74 z z (ww ?_)
 obtain ⟨x,b7,F,G,b⟩:=b.box [U6 a1.ab,U6 a1.Seq] 28
 refine wa F G (nt (ww (mv ((.slice none 0 0)) z (nt ?_))))
 obtain ⟨H,c,J⟩:=bn c
 refine cR (fun a w=>∃ (i:(List bI)) (h:Value),(lF a0) i=some r∧fz 39 [0,4] [p0,h] a∧St w0 w I [bm p0 a0,bp bc h i] R) ?_ ?_
 {
 refine ww (mi z (nt (au ?_)))
 replace b:=b.ba bc
 obtain ⟨K,c⟩:=aS c
 refine bg (fun n a w=>∃ (f:(List bI)) (j:Int) (g:Value),cU (gZ a0 a1) n (f,j)=some H∧fz 39 [0,3,4,5] [p0,Pt x 0,g,I6 j] a∧St w0 w I [bp bc g f,cells x [U6 a1.ab,U6 a1.Seq],bm p0 a0] R) K ⟨[],0,Zs,c,fy z,b⟩ ?_
 rintro b8 _ b9 ⟨f,j,g,c,⟨c1,rfl⟩,b⟩
 obtain ⟨c2,c3,rfl,c,k⟩:=aU c
 dsimp only [gZ] at c
 refine aj (ww (mi z (mv (p0) z ?_)))
 obtain ⟨l,c4,c5,c6,c7,c8,c9,d0,⟨rfl,m,p,q,s⟩,L⟩:=bS b.aD
 have b:=L
 refine mp z (mF z fI (mL z (b.bc0 z) (mz (bX z uI b.sv1) (mb z (nt (bw c z ?_ ?_))))))
 {
 refine fun M c=>al (tn (aj (au (aj ?_))))
 replace b:=b.ah
 obtain ⟨d1,t,b⟩:=b.cz
 refine eU b mixed krA (qz (Pt _ _) z (qz (Pt _ _) z (qh _ (fun w b=>xF z fI z) (qh _ (fun w b=>xL z (b.bc1 z)) (qz (I6 _) z ?_)))))
 obtain ⟨d,N,c⟩:=bn c
 obtain ⟨y,A,B⟩:=aV N
 refine qh _ (fun w b=>aJ z z uI sI (b.rsv 0 z t) y A) (qh _ (fun w b=>xG z fI z) ?_)
 obtain ⟨d2,O,P⟩:=bT.get t B
 obtain ⟨d3,rfl,d4,-⟩:=P
 refine qh _ (fun w b=>xN (cs:=[U6 d.ID.ab,U6 d.ID.Seq]) z (et (o:=0) (b.uy 0 z O) z)) (qh _ (fun w b=>xN (cs:=[U6 a1.ab,U6 a1.Seq]) z (b.CT 0 z)) (qh (.bool _) (fun w b=>wU z z krA uI krA krA krA uI uI (fun _ _ _=>by kernel_rfl) (fun _ _ _=>by kernel_rfl)) (hK ?_)))
 intro w b
 replace b:=b.bo t
 refine tn (bw c z ?_ ?_)
 {
 refine fun Q c=>wrl (mv (g) z (mp z (mp z (mF z fI (mL z (b.bc1 z) (mi z (mz (aJ z z uI sI b.sv0 y A) ?_)))))))
 obtain ⟨d5,S,T⟩:=b.og0 B
 obtain ⟨C,rfl,D,-⟩:=S
 refine mz (xN (cs:=[U6 d.ID.ab,U6 d.ID.Seq,I6 d.E,U6 d.ae,U6 d.Index,U6 d.bY,C]) z (et (o:=0) T z)) ?_
 obtain ⟨U,V,W,X,b⟩:=b.lits (E:=bc) (xs:=[d]) [[U6 d.ID.ab,U6 d.ID.Seq,I6 d.E,U6 d.ae,U6 d.Index,U6 d.bY,C]] 89 1 z (bT.cons ⟨_,z,D,oS (ak D)⟩ bT.nil)
 refine cK (v:=(.slice (some ⟨U,0,none⟩) 1 1)) (w':=V) z z (dH krA W X) ?_
 obtain ⟨Y,c⟩:=cF c
 replace b:=b.bq
 obtain ⟨u,Z,b0,b⟩:=bO vC underlying65 b b.iL (cP Y z) 65
 refine cK (v:=u) (w':=Z) z z (ck z z b0) (mv (u) z (dv (bJ (tn (wrl (mi z (mi z (mi z (nt ?_)))))))))
 cases c
 exact ⟨_,nls,(f++([d])),_,u,k,fy z,(aC (Pt l 0) a0 b.bq.bq.bj.bq ⟨z,m,p,q,s⟩).aA.aD.eu⟩
}
 refine fun Q c=>al (bJ (tn (wrl (mi z (mi z (mi z (nt ?_)))))))
 cases c
 exact ⟨_,nls,f,_,g,k,fy z,(aC (Pt l 0) a0 b.aA.aA.aD.aA ⟨z,m,p,q,s⟩).aD.aD.eu⟩
}
 refine fun M c=>bH (aQ (aQ ?_))
 replace c:=bz c k
 refine cZ (tn ?_)
 obtain rfl:=sj c
 exact ⟨f,g,J,fy z,(aC (Pt l 0) a0 b.aA.aA.aA.aA ⟨z,m,p,q,s⟩).ah.ah.cv⟩
}
 rintro _ d6 ⟨i,h,c,⟨d7,rfl⟩,b⟩
 dsimp only [lF] at c
 refine wrl (mv (p0) z (mv (h) z ?_))
 obtain ⟨b1,d8,d9,e0,e1,e2,e3,e4,⟨rfl,b2,b3,b4,b5⟩,b6⟩:=bS b
 have b:=b6
 refine mp z (mF z fI (b1k h b z (oS b.sv4) sI fun e5 b=>dv ?_))
 replace b:=aC (Pt b1 0) (({a0 with Open:=i}:aq)) b.aA.aA.bj.aA ⟨z,b2,b3,b4,b5⟩
 cases c
 exact mj (vs:=[]) z bl ⟨z,b.bF⟩
}
theorem vI {a0:aq} {p0:Value} {a1:Int} {a2:aG} {B C D F G h i j:Value} (h2:Ro cp I B a2.br.dO) (h3:Ro fU I C a2.br.aX) (h4:Ro cp I D a2.br.dD) (h5:Ro (cr .u8) I F a2.br.Data) (h6:Ro cG I G a2.cw) (V:Ro aK I h a2.R.dT) (W:Ro (eC aH) I i a2.R.aX) (P:Ro cN I j a2.dM) (b:St w0 w I [bm p0 a0] R) {r:(bU×aq)} (c:jw a0 a1 a2=some r) :
  Calls prog 73 #[p0,U6 a1,.agg #[U1 a2.Kind,U6 a2.ID.ab,U6 a2.ID.Seq,U6 a2.ae,U6 a2.Index,I6 a2.E,U6 a2.br.ID.ab,U6 a2.br.ID.Seq,U6 a2.br.ae,B,C,D,F,G,I6 a2.R.E,U6 a2.R.ae,U6 a2.R.Index,h,i,U6 a2.bY,j,U6 a2.ap.ID,I6 a2.ap.dn,I6 a2.ap.To,F6 a2.ap.Lo,F6 a2.ap.Hi,U6 a2.ap.Authority,I6 a2.ap.cx,.bool a2.On]] w fun e w'=>∃ (I':HL) (b8:Value) (b9:Value),e = .returned (.agg #[U1 r.1.Kind,U6 r.1.ID.ab,U6 r.1.ID.Seq,I6 r.1.R.E,U6 r.1.R.ae,U6 r.1.R.Index,b8,b9])∧I.le I'∧Ro aK I' b8 r.1.R.dT∧Ro (eC aH) I' b9 r.1.R.aX∧St w0 w' I' [bm p0 r.2] R:=by {
 unfold jw at c
 refine c0 func73 z z ?_
 have n:=HL.le.refl I
 refine ww ?_
 obtain ⟨o,h7,c8,c9,b⟩:=b.box [U1 a2.Kind,U6 a2.ID.ab,U6 a2.ID.Seq,U6 a2.ae,U6 a2.Index,I6 a2.E,U6 a2.br.ID.ab,U6 a2.br.ID.Seq,U6 a2.br.ae,B,C,D,F,G,I6 a2.R.E,U6 a2.R.ae,U6 a2.R.Index,h,i,U6 a2.bY,j,U6 a2.ap.ID,I6 a2.ap.dn,I6 a2.ap.To,F6 a2.ap.Lo,F6 a2.ap.Hi,U6 a2.ap.Authority,I6 a2.ap.cx,.bool a2.On] 49
 refine wa c8 c9 ?_
 obtain ⟨p,h8,d0,d1,b⟩:=b.box [Zb,Zu,Zu,Zi,Zu,Zu,Zs,Zs] 35
 refine wa d0 d1 (nt (ww (mF z fI (mz (xN (cs:=[I6 a2.R.E,U6 a2.R.ae,U6 a2.R.Index,h,i]) z (b.fO 14 z)) ?_))))
 obtain ⟨q,h9,d2,d3,b⟩:=b.box [Zi,Zu,Zu,Zs,Zs] 33
 refine wa d2 d3 (bxk b z sI (oJ 3 z (oC (oS (ak V)) (oC (oS (ak W)) oN))) fun i0 b=>nt (ww (mF z fI (mL z (b.bc2 z) (mF z fI (byk (U6 a2.ae) b z sI (oC z oN) fun i1 b=>nt (ww (mi z (mF z fI (byk (U6 a1) b z sI (oC z oN) fun i2 b=>nt ?_))))))))))
 obtain ⟨i3,c,X⟩:=bn c
 refine cR (fun a w=>∃ (d:Int) (H:(List cC)) (J:(List (List bP))) (k:Value) (l:Value),(jr a2 a0 a1) (d,H,J)=some r∧fz 120 [0,1,5,6,7] [p0,U6 a1,Pt o 0,Pt p 0,Pt q 0] a∧Ro aK I k H∧Ro (eC aH) I l J∧St w0 w I [bm p0 a0,cells o [U1 a2.Kind,U6 a2.ID.ab,U6 a2.ID.Seq,U6 a2.ae,U6 a2.Index,I6 a2.E,U6 a2.br.ID.ab,U6 a2.br.ID.Seq,U6 a2.br.ae,B,C,D,F,G,I6 a2.R.E,U6 a2.R.ae,U6 a2.R.Index,h,i,U6 a2.bY,j,U6 a2.ap.ID,I6 a2.ap.dn,I6 a2.ap.To,F6 a2.ap.Lo,F6 a2.ap.Hi,U6 a2.ap.Authority,I6 a2.ap.cx,.bool a2.On],cells p [Zb,Zu,Zu,Zi,Zu,Zu,Zs,Zs],cells q [I6 d,U6 a2.ae,U6 a1,k,l]] R) ?_ ?_
 {
 refine aj ?_
 obtain ⟨Y,i4,i5,i6,i7,i8,i9,j0,⟨rfl,Z,b0,b1,b2⟩,d4⟩:=bS b.aA
 have b:=d4
 refine eU b mixed krA (qh _ (fun w b=>xF z fI z) (qh _ (fun w b=>xL z (b.bc4 z)) (qz (.bool _) z (qz (.bool _) z (bs c ?_ ?_)))))
 {
 refine fun f c=>qg _ f (fun w b=>xF z fI z) (qg _ f (fun w b=>xL z (b.bc6 z)) (qgz (Pt _ _) f z (qgz (Pt _ _) f z (qg _ f (fun w b=>xF z fI z) (qg _ f (fun w b=>xL z (b.bc0 z)) (qgz (.bool _) f z (qh (.bool _) (fun w b=>bi f z z) (hK ?_))))))))
 refine fun w b=>tn (bw c z ?_ ?_)
 {
 refine fun d5 c=>wrl (mF z fI (mL z (b.bc6 z) (mi z (mk (.agg #[I6 9,U6 a2.ae,U6 a1,Zs,Zs]) ?_))))
 replace b:=b.bj
 refine bxk b z sI (oJ 5 z oN) fun j1 b=>nt ?_
 have d6:Ro aK I (.slice none 0 0) []:=dc
 have d7:Ro (eC aH) I (.slice none 0 0) []:=dc
 cases c
 exact ⟨_,([]),([]),Zs,Zs,X,fy z,d6,d7,(aC (Pt Y 0) a0 b.bj.bj.bj.bj ⟨z,Z,b0,b1,b2⟩).ah.aD.aA.aA.eQ⟩
}
 refine fun d5 c=>al (tn ?_)
 cases c
 exact ⟨_,_,_,h,i,X,fy z,V,W,(aC (Pt Y 0) a0 b.aA.aA.aA.aA ⟨z,Z,b0,b1,b2⟩).ah.aD.aA.aA.eQ⟩
}
 refine fun f c=>qo f (qo f (qo f (qo f (qo f (qo f (qo f (qh (.bool _) (fun w b=>aL f z z) (hK ?_))))))))
 refine fun w b=>tn (cJ z (al (tn ?_)))
 cases c
 exact ⟨_,_,_,h,i,X,fy z,V,W,(aC (Pt Y 0) a0 b.aA.aA.aA.aA ⟨z,Z,b0,b1,b2⟩).ah.aD.aA.aA.eQ⟩
}
 rintro _ j2 ⟨d,H,J,k,l,c,⟨j3,rfl⟩,K,L,b⟩
 dsimp only [jr] at c
 obtain ⟨j4,c,b3⟩:=ee c
 refine cR (fun a w =>(lH a0 a2 d a1 H J) ()=some r∧fz 120 [0,1,5,6,7] [p0,U6 a1,Pt o 0,Pt p 0,Pt q 0] a∧St w0 w I [bm p0 a0,cells o [U1 a2.Kind,U6 a2.ID.ab,U6 a2.ID.Seq,U6 a2.ae,U6 a2.Index,I6 a2.E,U6 a2.br.ID.ab,U6 a2.br.ID.Seq,U6 a2.br.ae,B,C,D,F,G,I6 a2.R.E,U6 a2.R.ae,U6 a2.R.Index,h,i,U6 a2.bY,j,U6 a2.ap.ID,I6 a2.ap.dn,I6 a2.ap.To,F6 a2.ap.Lo,F6 a2.ap.Hi,U6 a2.ap.Authority,I6 a2.ap.cx,.bool a2.On],cells p [Zb,Zu,Zu,Zi,Zu,Zu,Zs,Zs],cells q [I6 d,U6 a2.ae,U6 a1,k,l]] R) ?_ ?_
 {
 refine ww (mF z fI (mL z (b.bc3 z) (mb z (mb z (bs c ?_ ?_)))))
 {
 refine fun g c=>gg g (xF z fI z) (gg g (xF z fI z) (gg g (xL z (b.bc1 z)) (gb g z (mb (bi g z z) (nt (bw c z ?_ ?_))))))
 {
 refine fun d8 c=>ww (mk (.agg #[Zb,Zu,Zu,Zi,Zu,Zu,Zs,Zs]) ?_)
 replace b:=b.aD
 refine bxk b z sI (oJ 8 z oN) fun j5 b=>nt (ar (bh ?_))
 replace c:=bz c b3
 have d9:Ro aK I (.slice none 0 0) []:=dc
 have e0:Ro (eC aH) I (.slice none 0 0) []:=dc
 cases c
 exact prI z (rN z (b.fm 0 tz)) ⟨_,Zs,Zs,z,n,d9,e0,b.ah.bF⟩
}
 refine fun d8 c=>al (tn ?_)
 cases c
 exact ⟨b3,fy z,b.aA.aA.aA.aA.eQ⟩
}
 refine fun g c=>go g (go g (go g (go g (mb (aL g z z) (nt (cJ z (al (tn ?_))))))))
 cases c
 exact ⟨b3,fy z,b.aA.aA.aA.aA.eQ⟩
}
 rintro _ j6 ⟨c,⟨j7,rfl⟩,b⟩
 dsimp only [lH] at c
 refine aj ?_
 obtain ⟨m,j8,j9,c1,k0,k1,k2,k3,⟨rfl,s,t,u,x⟩,e2⟩:=bS b
 have b:=e2
 refine rg b 17 [0,1,3,7,0,16,48,0,128,384,0,2047,4095,8191,8191,16383,65535] [] mixed (sp 0 z z (sp 1 z z (sF 2 z z fI (sL 3 z z (·.bc0 z) (sF 4 z z fI (sF 5 z z fI (sL 6 z z (·.bc4 z) (sF 7 z z fI (sF 8 z z fI (sL 9 z z (·.bc4 z) (sh _ 10 z (fun w b=>xN z (b.Ji 0 tz)) (e1 11 z z fun w b=>bk c fun b4 e3 c=>wec call151 [c1,U6 a2.ID.ab,U6 a2.ID.Seq,.agg #[I6 d,U6 a2.ae,U6 a1,k,l]] z z ?_))))))))))))
 refine (wI (a3:=({E:=d,ae:=a2.ae,Index:=a1,dT:=H,aX:=J}:bB)) u K L b.to0 e3).mono ?_
 rintro _ k4 ⟨Q,M,rfl,y,b5,b⟩
 refine ⟨_,z,?_⟩
 replace b:=b.of0
 replace P:=P.mono (ro_le y)
 replace K:=K.mono (ro_le y)
 replace L:=L.mono (ro_le y)
 replace s:=s.mono (ro_le y)
 replace t:=t.mono (ro_le y)
 replace u:=u.mono (ro_le y)
 replace x:=x.mono (ro_le y)
 replace n:=n.trans y
 refine w0n b (sz (.tuple #[M,I6 b4.2]) 12 z z (sz (M) 13 z z (si 14 z z (sz (M) 15 z z (si 16 z z (bt ?_))))))
 refine fun w b=>tn (aj (ww (mi z (mb z (nt (bw c z ?_ ?_))))))
 {
 refine fun e4 c=>aj (aj (rg b 13 [0,1,3,7,0,16,48,127,255,0,512,1536,4095] [] mixed (sp 0 z z (sp 1 z z (sF 2 z z fI (sL 3 z z (·.bc0 z) (sF 4 z z fI (sF 5 z z fI (sL 6 z z (·.bc4 z) (sF 9 z z fI (sF 10 z z fI (sL 11 z z (·.bc4 z) (e1 7 z z fun w b=>bk c fun c2 e5 c=>wec call93 [c1,U6 a2.ID.ab] z z ((pp u b.to0 e5).mono ?_))))))))))))))
 rintro _ k5 ⟨S,k6,k7,rfl,N,e6,e7,b⟩
 refine ⟨_,z,?_⟩
 replace b:=b.of0
 replace s:=s.mono (ro_le N)
 replace t:=t.mono (ro_le N)
 replace u:=u.mono (ro_le N)
 replace x:=x.mono (ro_le N)
 replace n:=n.trans N
 refine wn [11,10,9] b (pL z z (·.bc4 z) (pF z z fI (pF z z fI aT))) (wsr (.int .u64 c2.Seq) 8 rfl rfl rfl krA (fun w b=>by obtain ⟨_,_,hv_,_⟩:=(ak e7); rw [hv_]; obtain ⟨_,_,hv_,_⟩:=(ak e6); rw [hv_]; kernel_rfl) (wsr (.bool (decide (c2.Seq>a2.ID.Seq))) 12 rfl rfl rfl krA (fun w b=>rfl) (bt ?_)))
 refine fun w b=>tn (bw c z ?_ ?_)
 {
 refine fun e8 c=>ww (mF z fI (mz (xN (cs:=[U6 a2.ID.ab,U6 a2.ID.Seq]) z (b.BI 1 z)) (mk (.agg #[I6 10,Zu,Zu,Zs,Zs]) (mk (.agg #[U1 4,U6 a2.ID.ab,U6 a2.ID.Seq,I6 10,Zu,Zu,Zs,Zs]) ?_))))
 replace b:=b.bq
 refine bxk b z sI (oJ 8 z oN) fun k8 b=>nt (ar (bh (bh ?_)))
 have e9:Ro aK S (.slice none 0 0) []:=dc
 have f0:Ro (eC aH) S (.slice none 0 0) []:=dc
 replace b:=aC (Pt m 0) a0 b.bj.bj.bj.bj ⟨z,s,t,u,x⟩
 cases c
 exact prI z (rN z (b.fO 0 tz)) ⟨_,Zs,Zs,z,n,e9,f0,b.bF⟩
}
 refine fun e8 c=>al (tn (ww (mk (.agg #[Zb,Zu,Zu,Zi,Zu,Zu,Zs,Zs]) ?_)))
 replace b:=b.bq
 refine bxk b z sI (oJ 8 z oN) fun k9 b=>nt (ar (bh ?_))
 have f1:Ro aK S (.slice none 0 0) []:=dc
 have f2:Ro (eC aH) S (.slice none 0 0) []:=dc
 replace b:=aC (Pt m 0) a0 b.bj.bj.bj.bj ⟨z,s,t,u,x⟩
 cases c
 exact prI z (rN z (b.fO 0 tz)) ⟨_,Zs,Zs,z,n,f1,f2,b.bF⟩
}
 refine fun e4 c=>al (tn (ww (mp z (mv (M) z (mp z (mF z fI (b1k M b z (oS (ak b5)) sI fun l0 b=>nt ?_)))))))
 obtain ⟨f3,c,c3⟩:=bn c
 refine cR (fun a w=>∃ (b6:aq),(lJ a2 d a1 H J) b6=some r∧fz 120 [5,6,7] [Pt o 0,Pt p 0,Pt q 0] a∧St w0 w Q [cells o [U1 a2.Kind,U6 a2.ID.ab,U6 a2.ID.Seq,U6 a2.ae,U6 a2.Index,I6 a2.E,U6 a2.br.ID.ab,U6 a2.br.ID.Seq,U6 a2.br.ae,B,C,D,F,G,I6 a2.R.E,U6 a2.R.ae,U6 a2.R.Index,h,i,U6 a2.bY,j,U6 a2.ap.ID,I6 a2.ap.dn,I6 a2.ap.To,F6 a2.ap.Lo,F6 a2.ap.Hi,U6 a2.ap.Authority,I6 a2.ap.cx,.bool a2.On],cells p [Zb,Zu,Zu,Zi,Zu,Zu,Zs,Zs],cells q [I6 d,U6 a2.ae,U6 a1,k,l],bm (Pt m 0) b6] R) ?_ ?_
 {
 refine ww (mF z fI (mL z (b.bc4 z) (mb z (nt (bw c z ?_ ?_)))))
 {
 refine fun f4 c=>ww (mp z (mF z fI (mz (xN (cs:=[U6 a2.ID.ab,U6 a2.ID.Seq]) z (b.BI 1 z)) ?_)))
 replace b:=aC (Pt m 0) (({a0 with A:=b4.1}:aq)) b.aA.aA.aA.aA ⟨z,s,t,b5,x⟩
 obtain ⟨T,f5,c⟩:=bn c
 refine wc call74 [Pt m 0,.agg #[U6 a2.ID.ab,U6 a2.ID.Seq]] z z z (kcI (rC b.to1 f5) fun l1 b=>nt (ww (mF z fI (mz (xN (cs:=[U6 a2.ID.ab,U6 a2.ID.Seq]) z (b.fO 1 z)) (mF z fI (mL z (b.bc3 z) (mF z fI (mL z (b.bc1 z) (mi z (mF z fI (mL z (b.bc1 z) (mk (.agg #[U6 a2.ID.ab,U6 a2.ID.Seq,I6 d,U6 a2.ae,U6 a1,U6 a2.bY,Zs]) ?_))))))))))))
 obtain ⟨c4,l2,f6,f7,b⟩:=b.box [Zu,Zu,Zi,Zu,Zu,Zu,Zs] 89
 refine wa f6 f7 (bxk b z sI (oJ 7 z oN) fun l3 b=>nt ?_)
 obtain ⟨l4,c,c5⟩:=bn c
 refine cR (fun a w=>∃ (O:(List dN)) (U:Value),(lK T a2 d a1) O=some f3∧fz 120 [0,5,6,7,10] [Pt m 0,Pt o 0,Pt p 0,Pt q 0,Pt c4 0] a∧Ro cN Q U O∧St w0 w Q [bm (Pt m 0) T,cells o [U1 a2.Kind,U6 a2.ID.ab,U6 a2.ID.Seq,U6 a2.ae,U6 a2.Index,I6 a2.E,U6 a2.br.ID.ab,U6 a2.br.ID.Seq,U6 a2.br.ae,B,C,D,F,G,I6 a2.R.E,U6 a2.R.ae,U6 a2.R.Index,h,i,U6 a2.bY,j,U6 a2.ap.ID,I6 a2.ap.dn,I6 a2.ap.To,F6 a2.ap.Lo,F6 a2.ap.Hi,U6 a2.ap.Authority,I6 a2.ap.cx,.bool a2.On],cells p [Zb,Zu,Zu,Zi,Zu,Zu,Zs,Zs],cells q [I6 d,U6 a2.ae,U6 a1,k,l],cells c4 [U6 a2.ID.ab,U6 a2.ID.Seq,I6 d,U6 a2.ae,U6 a1,U6 a2.bY,U]] R) ?_ ?_
 {
 refine ww (mF z fI (mL z (b.bc4 z) (mb z (nt (bw c z ?_ ?_)))))
 {
 refine fun f8 c=>wrl (mF z fI (mL z (b.bc2 z) (mF z fI (b1k j b z (oS (ak P)) sI fun l5 b=>nt ?_))))
 cases c
 exact ⟨_,j,c5,fy z,P,b.bj.bj.bj.bj.oB⟩
}
 refine fun f8 c=>al (tn ?_)
 have f9:Ro cN Q (.slice none 0 0) []:=dc
 cases c
 exact ⟨([]),Zs,c5,fy z,f9,b.bj.bj.bj.bj.oB⟩
}
 rintro _ l6 ⟨O,U,c,⟨l7,rfl⟩,c6,b⟩
 dsimp only [lK] at c
 obtain ⟨l8,l9,m0,m1,m2,m3,m4,m5,⟨b7,g0,g1,g2,g3⟩,g4⟩:=bS b
 replace b7:=ez b7
 subst b7
 have b:=g4
 refine rg b 11 [0,0,2,6,14,0,32,126,255,511,1023] [] mixed (sp 0 z z (sp 1 z z (sp 2 z z (sF 3 z z fI (sL 4 z z (·.bc0 z) (sh _ 5 z (fun w b=>xN z (b.MR 0 tz)) (e1 6 z z fun w b=>?_)))))))
 obtain ⟨g5,g6,g7,g8,b⟩:=b.lits (E:=bc) (xs:=[({a2 with E:=d,Index:=a1,dM:=O}:bI)]) [[U6 a2.ID.ab,U6 a2.ID.Seq,I6 d,U6 a2.ae,U6 a1,U6 a2.bY,U]] 89 1 z (bT.cons ⟨_,z,c6,oS (ak c6)⟩ bT.nil)
 refine cj (v:=(.slice (some ⟨g5,0,none⟩) 1 1)) (w':=g6) z (dH krA g7 g8) (wn [4,3,2,1,0] b (pL z z (·.bc1 z) (pF z z fI (pz (pz (pz aT))))) (e1 7 z z fun w b=>?_))
 obtain ⟨g9,c⟩:=cF c
 replace b:=b.aD
 obtain ⟨c7,h0,h1,b⟩:=bO vC underlying65 b b.iL (cP g9 z) 65
 refine cj (v:=c7) (w':=h0) z (ck z z h1) (wn [0] b (pz aT) (sp 8 z z (sF 9 z z fI (e1 10 z z fun w b=>?_))))
 replace b:=b.aD
 refine b1e c7 b z (oS b.sv1) sI fun m6 b=>w0n b (bt ?_)
 refine fun w b=>tn ?_
 cases c
 exact ⟨_,c3,fy z,(aC (Pt m 0) (({T with Open:=(T.Open++([({a2 with E:=d,Index:=a1,dM:=O}:bI)]))}:aq)) b.bj.bj.aA.aA ⟨z,g0,g1,g2,g3⟩).bj.bj.bj.eQ⟩
}
 refine fun f4 c=>al (tn ?_)
 cases c
 exact ⟨_,c3,fy z,(aC (Pt m 0) (({a0 with A:=b4.1}:aq)) b.aA.aA.aA.aA ⟨z,s,t,b5,x⟩).aA.aA.aA.eQ⟩
}
 rintro _ m7 ⟨b6,c,⟨m8,rfl⟩,b⟩
 dsimp only [lJ] at c
 refine ww (mF z fI (mz (xN (cs:=[U6 a2.ID.ab,U6 a2.ID.Seq]) z (b.fm 1 z)) (mz (xN z (b.ta 0 tz)) (wv (.agg #[U1 4,U6 a2.ID.ab,U6 a2.ID.Seq,I6 d,U6 a2.ae,U6 a1,k,l]) z z (by obtain ⟨_,_,hv_,_⟩:=(ak L); rw [hv_]; obtain ⟨_,_,hv_,_⟩:=(ak K); rw [hv_]; kernel_rfl) ?_))))
 replace b:=b.ah
 refine bxk b z sI (oJ 6 z (oC (oS (ak K)) (oC (oS (ak L)) oN))) fun m9 b=>nt (ar ?_)
 cases c
 exact prI z (rN z (b.fm 0 tz)) ⟨_,k,l,z,n,K,L,b.aA.bF⟩
}
theorem zl {a0:(List dz)} {h:Value} {a1 a2:Int} (s:Rd fi R I h a0) (c:St w0 w I [] R) {r:((List dz)×Bool)} (b:pw a0 a1 a2=some r) :
  Calls prog 75 #[h,U6 a1,U6 a2] w fun e w'=>∃ (y:Value),e = .returned (.tuple #[y,.bool r.2])∧St w0 w' I [bp fi y r.1] R:=by {
 unfold pw at b
 refine c0 func75 z z (ww (mv ((.slice none 0 0)) z (mb z (nt (ww (mv ((.slice none 0 0)) z (nt (ww (mb z (nt ?_))))))))))
 obtain ⟨b0,b,A⟩:=bn b
 refine cR (fun a w=>∃ (g:Int),(nS a0 a1) g=some r∧fz 42 [0,1,2,8,9] [h,U6 a1,U6 g,(.slice none 0 0),.bool false] a∧St w0 w I [] R) ?_ ?_
 {
 refine ww (mi z (mb z (nt (bw b z ?_ ?_))))
 {
 refine fun D b=>wrl (mi z (nt ?_))
 cases b
 exact ⟨_,A,fy z,c.cT⟩
}
 refine fun D b=>al (tn ?_)
 cases b
 exact ⟨a2,A,fy z,c.cT⟩
}
 rintro _ b1 ⟨g,b,⟨b2,rfl⟩,c⟩
 dsimp only [nS] at b
 obtain ⟨F,b,G⟩:=bn b
 refine cR (fun a w=>∃ (t:(List dz)) (p:Bool) (i:Value),(te) (t,p)=some r∧fz 42 [8,9] [i,.bool p] a∧St w0 w I [bp fi i t] R) ?_ ?_
 {
 refine ww (mi z (nt (au ?_)))
 replace c:=c.ba fi
 obtain ⟨H,b⟩:=aS b
 refine bg (fun n a w=>∃ (o:Int) (j:(List dz)) (l:Bool) (k:Value),cU (kw a0 a1 g) n (o,j,l)=some F∧fz 42 [0,1,2,8,9,10] [h,U6 a1,U6 g,k,.bool l,I6 o] a∧St w0 w I [bp fi k j] R) H ⟨0,[],false,Zs,b,fy z,c⟩ ?_
 rintro b3 _ b4 ⟨o,j,l,k,b,⟨b5,rfl⟩,c⟩
 obtain ⟨b6,J,rfl,b,B⟩:=aU b
 dsimp only [kw] at b
 refine aj (ww (mi z (mv (h) z (mz (bX z uI (ay s)) (mb z (nt (bw b z ?_ ?_)))))))
 {
 refine fun K b=>al (tn (aj (au (ww (mv (h) z (mi z ?_))))))
 obtain ⟨d,L,b⟩:=bn b
 obtain ⟨M,N,O⟩:=aV L
 refine mz (aJ z z uI sI (ay s) M N) (mz (xN (cs:=[U6 d.R.ID,I6 d.R.dn,I6 d.R.To,F6 d.R.Lo,F6 d.R.Hi,U6 d.R.Authority,I6 d.R.cx,U6 d.dn,U6 d.To]) z (sG s lr c O 0 riA)) ?_)
 obtain ⟨C,b7,P,Q,c⟩:=c.box [Zu,Zi,Zi,Zf,Zf,Zu,Zi,Zu,Zu] 144
 refine wa P Q (bxk c z sI (oJ 9 z oN) fun b8 c=>nt ?_)
 obtain ⟨b9,b,u⟩:=bn b
 refine cR (fun a w=>∃ (q:Bool) (m:Int),(lR j d o) (q,m)=some J∧fz 42 [0,1,2,8,9,10,11] [h,U6 a1,U6 g,k,.bool q,I6 o,Pt C 0] a∧St w0 w I [bp fi k j,cells C [U6 d.R.ID,I6 d.R.dn,I6 d.R.To,F6 d.R.Lo,F6 d.R.Hi,U6 d.R.Authority,I6 d.R.cx,U6 d.dn,U6 m]] R) ?_ ?_
 {
 refine ww (mF z fI (mF z fI (mL z (c.bc0 z) (mi z (mb z (mb z (bs b ?_ ?_)))))))
 {
 refine fun f b=>gg f (xF z fI z) (gg f (xL z (c.bc0 z)) (gb f z (mb (bi f z z) (nt (bw b z ?_ ?_)))))
 {
 refine fun S b=>ww (mi z (mF z fI (byk (U6 g) c z sI (oC z oN) fun c1 c=>nt (wrl (mb z (nt ?_))))))
 cases b
 exact ⟨true,g,u,fy z,c.ah.cv⟩
}
 refine fun S b=>al (tn ?_)
 cases b
 exact ⟨l,_,u,fy z,c.ah.cv⟩
}
 refine fun f b=>go f (go f (go f (mb (aL f z z) (nt (cJ z (al (tn ?_)))))))
 cases b
 exact ⟨l,_,u,fy z,c.ah.cv⟩
}
 rintro _ c2 ⟨q,m,b,⟨c3,rfl⟩,c⟩
 dsimp only [lR] at b
 refine wrl (mv (k) z (mz (xN z (c.fO 0 tz)) ?_))
 obtain ⟨T,U,V,W,c⟩:=c.lits (E:=fi) (xs:=[({d with To:=m}:dz)]) [[U6 d.R.ID,I6 d.R.dn,I6 d.R.To,F6 d.R.Lo,F6 d.R.Hi,U6 d.R.Authority,I6 d.R.cx,U6 d.dn,U6 m]] 144 1 z (bT.cons z bT.nil)
 refine cK (v:=(.slice (some ⟨T,0,none⟩) 1 1)) (w':=U) z z (dH krA V W) ?_
 obtain ⟨X,b⟩:=cF b
 replace c:=c.ah
 obtain ⟨x,Y,Z,c⟩:=bO Eg underlying127 c c.iL (cP X z) 127
 refine cK (v:=x) (w':=Y) z z (ck z z Z) (mv (x) z (dv (bJ (tn (wrl (mi z (mi z (mi z (nt ?_)))))))))
 cases b
 exact ⟨_,nls,_,(j++([({d with To:=m}:dz)])),q,x,B,fy z,c.bF⟩
}
 refine fun K b=>bH (aQ (aQ ?_))
 replace b:=bz b B
 refine cZ (tn ?_)
 cases b
 exact ⟨j,l,k,G,fy z,c.bF⟩
}
 rintro _ c4 ⟨t,p,i,b,⟨c5,rfl⟩,c⟩
 dsimp only [te] at b
 refine ww (mv (i) z (mb z (mv (i) z (mb z (nt (ar ?_))))))
 cases b
 exact dI [i,.bool p] z (rc z (rc z bl)) ⟨i,z,c.bF⟩
}
theorem Bx {a0:bK} {h:Value} {a1:Int} (o:Rd (cr .u8) R I h a0.Val) (c:St w0 w I [] R) {r:(bK)} (b:uR a0 a1=some r) :
  Calls prog 16 #[.agg #[F6 a0.At,.bool a0.Del,h],I6 a1] w fun e w'=>∃ (t:Value),e = .returned (.agg #[F6 r.At,.bool r.Del,t])∧St w0 w' I [bp (cr .u8) t r.Val] R:=by {
 unfold uR at b
 refine c0 func16 z z (ww ?_)
 obtain ⟨i,X,y,A,c⟩:=c.box [F6 a0.At,.bool a0.Del,h] 41
 refine wa y A ?_
 obtain ⟨j,Y,B,C,c⟩:=c.box [Zf,.bool false,Zs] 41
 refine wa B C (nt (ww (mv ((.slice none 0 0)) z (nt ?_))))
 obtain ⟨D,b,u⟩:=bn b
 refine cR (fun a w=>∃ (p:(List Int)) (k:Value),(rq a0) p=some r∧fz 35 [2,4,5] [Pt i 0,Pt j 0,k] a∧St w0 w I [cells i [F6 a0.At,.bool a0.Del,h],cells j [Zf,.bool false,Zs],bp (cr .u8) k p] R) ?_ ?_
 {
 refine ww (mi z (nt (au ?_)))
 replace c:=c.ba (cr .u8)
 obtain ⟨F,b⟩:=aS b
 refine bg (fun n a w=>∃ (f:(List Int)) (m:Int) (g:Value),cU (lX a1 a0) n (f,m)=some D∧fz 35 [1,2,4,5,6] [I6 a1,Pt i 0,Pt j 0,g,I6 m] a∧St w0 w I [bp (cr .u8) g f,cells j [Zf,.bool false,Zs],cells i [F6 a0.At,.bool a0.Del,h]] R) F ⟨[],0,Zs,b,fy z,c⟩ ?_
 rintro Z _ b0 ⟨f,m,g,b,⟨b1,rfl⟩,c⟩
 obtain ⟨b2,G,rfl,b,q⟩:=aU b
 dsimp only [lX] at b
 refine aj (ww (mi z (mi z (mb z (mb z (bs b ?_ ?_))))))
 {
 refine fun d b=>gg d (xF z fI z) (gg d (xL z (c.bc2 z)) (gb d z (mb (bi d z z) (nt (bw b z ?_ ?_)))))
 {
 refine fun H b=>al (tn (aj (au (ww (mi z (nt ?_))))))
 obtain ⟨b3,b,x⟩:=bn b
 refine cR (fun a w=>∃ (l:Int),(tt f m) l=some G∧fz 35 [1,2,4,5,6,7] [I6 a1,Pt i 0,Pt j 0,g,I6 m,U1 l] a∧St w0 w I [cells i [F6 a0.At,.bool a0.Del,h],cells j [Zf,.bool false,Zs],bp (cr .u8) g f] R) ?_ ?_
 {
 refine ww (mi z (mF z fI (mL z (c.bc2 z) (mz (bX z uI (ay o)) (mb z (nt (bw b z ?_ ?_)))))))
 {
 refine fun J b=>wrl (mF z fI (mL z (c.bc2 z) (mi z ?_)))
 obtain ⟨K,L,b⟩:=bn b
 obtain ⟨M,N,O⟩:=aV L
 refine mz (aJ z z uI sI (ay o) M N) (mL z (fb o lr c O riA) (mi z (nt ?_)))
 obtain rfl:=sj b
 exact ⟨K,x,fy z,c.ah.aD.eu⟩
}
 refine fun J b=>al (tn ?_)
 cases b
 exact ⟨_,x,fy z,c.ah.aD.eu⟩
}
 rintro _ b4 ⟨l,b,⟨b5,rfl⟩,c⟩
 dsimp only [tt] at b
 refine wrl (mv (g) z (mi z ?_))
 obtain ⟨P,Q,S,T,c⟩:=c.lits (E:=(cr .u8)) (xs:=[l]) [[U1 l]] 5 1 z (bT.cons z bT.nil)
 refine cK (v:=(.slice (some ⟨P,0,none⟩) 1 1)) (w':=Q) z z (dH krA S T) ?_
 obtain ⟨U,b⟩:=cF b
 replace c:=c.aA
 obtain ⟨s,V,W,c⟩:=bO xh underlying22 c c.iL (cP U z) 22
 refine cK (v:=s) (w':=V) z z (ck z z W) (mv (s) z (dv (bJ (tn (wrl (mi z (mi z (mi z (nt ?_)))))))))
 cases b
 exact ⟨_,nls,(f++([l])),_,s,q,fy z,c.aD.aA.aD.eu⟩
}
 refine fun H b=>bH (aQ (aQ ?_))
 replace b:=bz b q
 refine cZ (tn ?_)
 obtain rfl:=sj b
 exact ⟨f,g,u,fy z,c.ah.aD.eu⟩
}
 refine fun d b=>go d (go d (go d (mb (aL d z z) (nt (cJ z (bH (aQ (aQ ?_))))))))
 replace b:=bz b q
 refine cZ (tn ?_)
 obtain rfl:=sj b
 exact ⟨f,g,u,fy z,c.ah.aD.eu⟩
}
 rintro _ b6 ⟨p,k,b,⟨b7,rfl⟩,c⟩
 dsimp only [rq] at b
 refine ww (mv (k) z (mF z fI (b1k k c z (oS c.sv2) sI fun b8 c=>nt (ww (mz (xN z (c.fm 0 tz)) ?_)))))
 replace c:=c.ah
 refine bxk c z sI (oJ 2 z (oC (oS c.sv2) oN)) fun b9 c=>nt (ar ?_)
 cases b
 exact prI z (rN z (c.fm 0 tz)) ⟨k,z,c.aD.bF⟩
}
theorem wy {a0:aq} {p0:Value} {a1:Int} {a2:aG} {p q s t u x y B:Value} (o7:Rd cp R I p a2.br.dO) (o8:Rd fU R I q a2.br.aX) (o9:Rd cp R I s a2.br.dD) (q0:Rd (cr .u8) R I t a2.br.Data) (Z:Rd cG R I u a2.cw) (q1:Rd aK R I x a2.R.dT) (q2:Rd (eC aH) R I y a2.R.aX) (q3:Rd cN R I B a2.dM) (b:St w0 w I [bm p0 a0] R) {r:(bU×aq)} (c:kU a0 a1 a2=some r) :
  Calls prog 76 #[p0,U6 a1,.agg #[U1 a2.Kind,U6 a2.ID.ab,U6 a2.ID.Seq,U6 a2.ae,U6 a2.Index,I6 a2.E,U6 a2.br.ID.ab,U6 a2.br.ID.Seq,U6 a2.br.ae,p,q,s,t,u,I6 a2.R.E,U6 a2.R.ae,U6 a2.R.Index,x,y,U6 a2.bY,B,U6 a2.ap.ID,I6 a2.ap.dn,I6 a2.ap.To,F6 a2.ap.Lo,F6 a2.ap.Hi,U6 a2.ap.Authority,I6 a2.ap.cx,.bool a2.On]] w fun e w'=>∃ (I':HL) (f6:Value) (f7:Value),e = .returned (.agg #[U1 r.1.Kind,U6 r.1.ID.ab,U6 r.1.ID.Seq,I6 r.1.R.E,U6 r.1.R.ae,U6 r.1.R.Index,f6,f7])∧I.le I'∧Ro aK I' f6 r.1.R.dT∧Ro (eC aH) I' f7 r.1.R.aX∧St w0 w' I' [bm p0 r.2] R:=by {
 unfold kU at c
 refine c0 func76 z z ?_
 have L:=HL.le.refl I
 refine ww ?_
 obtain ⟨h,q4,h6,h7,b⟩:=b.box [U1 a2.Kind,U6 a2.ID.ab,U6 a2.ID.Seq,U6 a2.ae,U6 a2.Index,I6 a2.E,U6 a2.br.ID.ab,U6 a2.br.ID.Seq,U6 a2.br.ae,p,q,s,t,u,I6 a2.R.E,U6 a2.R.ae,U6 a2.R.Index,x,y,U6 a2.bY,B,U6 a2.ap.ID,I6 a2.ap.dn,I6 a2.ap.To,F6 a2.ap.Lo,F6 a2.ap.Hi,U6 a2.ap.Authority,I6 a2.ap.cx,.bool a2.On] 49
 refine wa h6 h7 ?_
 obtain ⟨i,q5,h8,h9,b⟩:=b.box [Zb,Zu,Zu,Zi,Zu,Zu,Zs,Zs] 35
 refine wa h8 h9 (nt (ww (mF z fI (mF z fI (mL z (b.bc1 z) (mF z fI (mL z (b.bc1 z) (mi z (mk (.agg #[I6 a2.R.E,U6 a2.ae,U6 a1,Zs,Zs]) ?_)))))))))
 obtain ⟨j,q6,i0,i1,b⟩:=b.box [Zi,Zu,Zu,Zs,Zs] 33
 refine wa i0 i1 (bxk b z sI (oJ 5 z oN) fun q7 b=>nt (ww (mF z fI (mF z fI (mL z (b.bc2 z) (mF z fI (mL z (b.bc2 z) (mk (.agg #[U6 a2.ap.ID,U6 a2.ae,Zi]) ?_))))))))
 obtain ⟨l,q8,i2,i3,b⟩:=b.box [Zu,Zu,Zi] 249
 refine wa i2 i3 (bxk b z sI (oJ 3 z oN) fun q9 b=>nt (ww (mv ((.slice none 0 0)) z (nt ?_))))
 obtain ⟨i4,c,i5⟩:=bn c
 refine cR (fun a w=>∃ (d:Int) (m:(List eO)) (D:Value),(mO a2 a0 a1) (d,m)=some r∧fz 204 [0,5,6,7,8,9] [p0,Pt h 0,Pt i 0,Pt j 0,Pt l 0,D] a∧St w0 w I [bm p0 a0,cells h [U1 a2.Kind,U6 a2.ID.ab,U6 a2.ID.Seq,U6 a2.ae,U6 a2.Index,I6 a2.E,U6 a2.br.ID.ab,U6 a2.br.ID.Seq,U6 a2.br.ae,p,q,s,t,u,I6 a2.R.E,U6 a2.R.ae,U6 a2.R.Index,x,y,U6 a2.bY,B,U6 a2.ap.ID,I6 a2.ap.dn,I6 a2.ap.To,F6 a2.ap.Lo,F6 a2.ap.Hi,U6 a2.ap.Authority,I6 a2.ap.cx,.bool a2.On],cells i [Zb,Zu,Zu,Zi,Zu,Zu,Zs,Zs],cells j [I6 a2.R.E,U6 a2.ae,U6 a1,Zs,Zs],cells l [U6 a2.ap.ID,U6 a2.ae,I6 d],bp eL D m] R) ?_ ?_
 {
 refine ww (mi z (nt (au ?_)))
 replace b:=b.ba eL
 obtain ⟨i6,c⟩:=aS c
 refine bg (fun n a w=>∃ (b0:Int) (d5:Int) (T:(List eO)) (U:Value),cU (gN a0 a2) n (b0,d5,T)=some i4∧fz 204 [0,5,6,7,8,9,10] [p0,Pt h 0,Pt i 0,Pt j 0,Pt l 0,U,I6 d5] a∧St w0 w I [bp eL U T,cells l [U6 a2.ap.ID,U6 a2.ae,I6 b0],cells j [I6 a2.R.E,U6 a2.ae,U6 a1,Zs,Zs],cells i [Zb,Zu,Zu,Zi,Zu,Zu,Zs,Zs],cells h [U1 a2.Kind,U6 a2.ID.ab,U6 a2.ID.Seq,U6 a2.ae,U6 a2.Index,I6 a2.E,U6 a2.br.ID.ab,U6 a2.br.ID.Seq,U6 a2.br.ae,p,q,s,t,u,I6 a2.R.E,U6 a2.R.ae,U6 a2.R.Index,x,y,U6 a2.bY,B,U6 a2.ap.ID,I6 a2.ap.dn,I6 a2.ap.To,F6 a2.ap.Lo,F6 a2.ap.Hi,U6 a2.ap.Authority,I6 a2.ap.cx,.bool a2.On],bm p0 a0] R) i6 ⟨0,0,[],Zs,c,fy z,b⟩ ?_
 rintro s0 _ s1 ⟨b0,d5,T,U,c,⟨s2,rfl⟩,b⟩
 obtain ⟨s3,s4,rfl,c,c1⟩:=aU c
 dsimp only [gN] at c
 refine aj (ww (mi z (mv (p0) z ?_)))
 obtain ⟨c2,s5,s6,s7,s8,s9,t0,t1,⟨rfl,c3,c4,c5,c6⟩,i7⟩:=bS b.bq
 have b:=i7
 refine mp z (mF z fI (mL z (b.bc0 z) (mz (bX z uI b.sv3) (mb z (nt (bw c z ?_ ?_))))))
 {
 refine fun i8 c=>al (tn (aj (au (aj (eU b mixed krA (qz (Pt _ _) z (qz (Pt _ _) z (qh _ (fun w b=>xF z fI z) (qh _ (fun w b=>xL z (b.bc0 z)) (qz (I6 _) z ?_))))))))))
 obtain ⟨M,i9,c⟩:=bn c
 obtain ⟨c7,c8,c9⟩:=aV i9
 refine qh _ (fun w b=>aJ z z uI sI b.sv3 c7 c8) (qh _ (fun w b=>xG z fI z) (qh _ (fun w b=>xL z (b.ol3 c9 riA)) (qh _ (fun w b=>xF z fI z) (qh _ (fun w b=>xF z fI z) (qh _ (fun w b=>xL z (b.bc8 z)) (qz (.bool _) z (hK ?_)))))))
 refine fun w b=>tn (bw c z ?_ ?_)
 {
 refine fun j0 c=>wrl (mv (U) z (mp z (mp z (mF z fI (mL z (b.bc0 z) (mi z (mz (aJ z z uI sI b.sv3 c7 c8) (mz (xN (cs:=[U6 M.ap,U6 M.ae,I6 M.N]) z (b.MV c9 0 riA)) ?_))))))))
 obtain ⟨j1,j2,j3,j4,b⟩:=b.lits (E:=eL) (xs:=[M]) [[U6 M.ap,U6 M.ae,I6 M.N]] 249 1 z (bT.cons z bT.nil)
 refine cK (v:=(.slice (some ⟨j1,0,none⟩) 1 1)) (w':=j2) z z (dH krA j3 j4) ?_
 obtain ⟨j5,c⟩:=cF c
 replace b:=b.bq
 obtain ⟨d6,j6,j7,b⟩:=bO DD underlying128 b b.iL (cP j5 z) 128
 refine cK (v:=d6) (w':=j6) z z (ck z z j7) (mv (d6) z (dv (bJ (tn (wrl (mi z (mi z (mi z (nt ?_)))))))))
 cases c
 exact ⟨_,nls,b0,_,(T++([M])),d6,c1,fy z,(aC (Pt c2 0) a0 b.bq.bq.bq.bq ⟨z,c3,c4,c5,c6⟩).de.de.de.de.bq.lh⟩
}
 refine fun j0 c=>aj (eU b mixed krA (qz (Pt _ _) z (qz (Pt _ _) z (qh _ (fun w b=>xF z fI z) (qh _ (fun w b=>xL z (b.bc0 z)) (qz (I6 _) z (qh _ (fun w b=>aJ z z uI sI b.sv3 c7 c8) (qh _ (fun w b=>xG z fI z) (qh _ (fun w b=>xL z (b.ol3 c9 riA)) (qh _ (fun w b=>xF z fI z) (qh _ (fun w b=>xL z (b.bc8 z)) (qz (.bool _) z (hK ?_)))))))))))))
 refine fun w b=>tn (bw c z ?_ ?_)
 {
 refine fun j8 c=>wrl (mp z (mp z (mF z fI (mL z (b.bc0 z) (mi z (mz (aJ z z uI sI b.sv3 c7 c8) (mz (xG z fI z) (mL z (b.ol3 c9 riA) (mF z fI ?_)))))))))
 replace b:=b.bq
 refine byk (I6 M.N) b z sI (oC z oN) fun t2 b=>dv (bJ (tn (wrl (mi z (mi z (mi z (nt ?_)))))))
 cases c
 exact ⟨_,nls,_,_,T,U,c1,fy z,(aC (Pt c2 0) a0 b.bj.bj.bj.bj ⟨z,c3,c4,c5,c6⟩).bq.bq.bq.bj.bq.lh⟩
}
 refine fun j8 c=>al (bJ (tn (wrl (mi z (mi z (mi z (nt ?_)))))))
 cases c
 exact ⟨_,nls,b0,_,T,U,c1,fy z,(aC (Pt c2 0) a0 b.aA.aA.aA.aA ⟨z,c3,c4,c5,c6⟩).bq.bq.bq.bq.bq.lh⟩
}
 refine fun i8 c=>bH (aQ (aQ ?_))
 replace c:=bz c c1
 refine cZ (tn ?_)
 cases c
 exact ⟨b0,T,U,i5,fy z,(aC (Pt c2 0) a0 b.aA.aA.aA.aA ⟨z,c3,c4,c5,c6⟩).ah.aD.aA.bj.bq.bq.lh⟩
}
 rintro _ t3 ⟨d,m,D,c,⟨t4,rfl⟩,b⟩
 dsimp only [mO] at c
 obtain ⟨t5,c,d7⟩:=bn c
 refine cR (fun a w=>∃ (b5:Int),(kJ a2 d a0 a1 m) b5=some r∧fz 204 [0,5,6,7,8,9] [p0,Pt h 0,Pt i 0,Pt j 0,Pt l 0,D] a∧St w0 w I [bm p0 a0,cells h [U1 a2.Kind,U6 a2.ID.ab,U6 a2.ID.Seq,U6 a2.ae,U6 a2.Index,I6 a2.E,U6 a2.br.ID.ab,U6 a2.br.ID.Seq,U6 a2.br.ae,p,q,s,t,u,I6 a2.R.E,U6 a2.R.ae,U6 a2.R.Index,x,y,U6 a2.bY,B,U6 a2.ap.ID,I6 a2.ap.dn,I6 a2.ap.To,F6 a2.ap.Lo,F6 a2.ap.Hi,U6 a2.ap.Authority,I6 a2.ap.cx,.bool a2.On],cells i [Zb,Zu,Zu,Zi,Zu,Zu,Zs,Zs],cells j [I6 b5,U6 a2.ae,U6 a1,Zs,Zs],cells l [U6 a2.ap.ID,U6 a2.ae,I6 d],bp eL D m] R) ?_ ?_
 {
 refine aj ?_
 obtain ⟨d8,t6,t7,t8,t9,u0,u1,u2,⟨rfl,d9,e0,e2,e3⟩,j9⟩:=bS b
 have b:=j9
 refine eU b mixed krA (qh _ (fun w b=>xF z fI z) (qh _ (fun w b=>xL z (b.bc6 z)) (qz (.bool _) z (qz (.bool _) z (bs c ?_ ?_)))))
 {
 refine fun f c=>qg _ f (fun w b=>xF z fI z) (qg _ f (fun w b=>xL z (b.bc4 z)) (qgz (Pt _ _) f z (qgz (Pt _ _) f z (qg _ f (fun w b=>xF z fI z) (qg _ f (fun w b=>xL z (b.bc0 z)) (qgz (.bool _) f z (qh (.bool _) (fun w b=>bi f z z) (hK ?_))))))))
 refine fun w b=>tn (bw c z ?_ ?_)
 {
 refine fun k0 c=>wrl (mF z fI ?_)
 replace b:=b.de
 refine byk (I6 9) b z sI (oC z oN) fun u3 b=>nt ?_
 cases c
 exact ⟨_,d7,fy z,(aC (Pt d8 0) a0 b.bj.bj.bj.bj ⟨z,d9,e0,e2,e3⟩).bq.bq.aA.bq.bq.bq.lh⟩
}
 refine fun k0 c=>al (tn ?_)
 cases c
 exact ⟨_,d7,fy z,(aC (Pt d8 0) a0 b.aA.aA.aA.aA ⟨z,d9,e0,e2,e3⟩).bq.bq.bq.bq.bq.bq.lh⟩
}
 refine fun f c=>qo f (qo f (qo f (qo f (qo f (qo f (qo f (qh (.bool _) (fun w b=>aL f z z) (hK ?_))))))))
 refine fun w b=>tn (cJ z (al (tn ?_)))
 cases c
 exact ⟨_,d7,fy z,(aC (Pt d8 0) a0 b.aA.aA.aA.aA ⟨z,d9,e0,e2,e3⟩).bq.bq.bq.bq.bq.bq.lh⟩
}
 rintro _ u4 ⟨b5,c,⟨u5,rfl⟩,b⟩
 dsimp only [kJ] at c
 obtain ⟨u6,c,e4⟩:=bn c
 refine cR (fun a w=>∃ (b6:Int),(kF d a2 a0 a1 m) b6=some r∧fz 204 [0,5,6,7,8,9] [p0,Pt h 0,Pt i 0,Pt j 0,Pt l 0,D] a∧St w0 w I [bm p0 a0,cells h [U1 a2.Kind,U6 a2.ID.ab,U6 a2.ID.Seq,U6 a2.ae,U6 a2.Index,I6 a2.E,U6 a2.br.ID.ab,U6 a2.br.ID.Seq,U6 a2.br.ae,p,q,s,t,u,I6 a2.R.E,U6 a2.R.ae,U6 a2.R.Index,x,y,U6 a2.bY,B,U6 a2.ap.ID,I6 a2.ap.dn,I6 a2.ap.To,F6 a2.ap.Lo,F6 a2.ap.Hi,U6 a2.ap.Authority,I6 a2.ap.cx,.bool a2.On],cells i [Zb,Zu,Zu,Zi,Zu,Zu,Zs,Zs],cells j [I6 b6,U6 a2.ae,U6 a1,Zs,Zs],cells l [U6 a2.ap.ID,U6 a2.ae,I6 d],bp eL D m] R) ?_ ?_
 {
 refine ww (mF z fI (mL z (b.bc3 z) (mb z (mb z (bs c ?_ ?_)))))
 {
 refine fun C c=>gg C (xF z fI z) (gg C (xL z (b.bc1 z)) (gg C (bX z uI (ay Z)) (gb C z (mb (bi C z z) (nt (bw c z ?_ ?_))))))
 {
 refine fun k1 c=>wrl (mF z fI ?_)
 replace b:=b.aA
 refine byk (I6 1) b z sI (oC z oN) fun u7 b=>nt ?_
 cases c
 exact ⟨_,e4,fy z,b.bq.bq.aD.bq.bq.bq.lh⟩
}
 refine fun k1 c=>al (tn ?_)
 cases c
 exact ⟨b5,e4,fy z,b.bq.bq.bq.bq.bq.bq.lh⟩
}
 refine fun C c=>go C (go C (go C (go C (mb (aL C z z) (nt (cJ z (al (tn ?_))))))))
 cases c
 exact ⟨b5,e4,fy z,b.bq.bq.bq.bq.bq.bq.lh⟩
}
 rintro _ u9 ⟨b6,c,⟨v0,rfl⟩,b⟩
 dsimp only [kF] at c
 obtain ⟨v1,c,e5⟩:=bn c
 refine cR (fun a w=>∃ (F:Int),(eY a0 a2 a1 m d) F=some r∧fz 204 [0,5,6,7,8,9] [p0,Pt h 0,Pt i 0,Pt j 0,Pt l 0,D] a∧St w0 w I [bm p0 a0,cells h [U1 a2.Kind,U6 a2.ID.ab,U6 a2.ID.Seq,U6 a2.ae,U6 a2.Index,I6 a2.E,U6 a2.br.ID.ab,U6 a2.br.ID.Seq,U6 a2.br.ae,p,q,s,t,u,I6 a2.R.E,U6 a2.R.ae,U6 a2.R.Index,x,y,U6 a2.bY,B,U6 a2.ap.ID,I6 a2.ap.dn,I6 a2.ap.To,F6 a2.ap.Lo,F6 a2.ap.Hi,U6 a2.ap.Authority,I6 a2.ap.cx,.bool a2.On],cells i [Zb,Zu,Zu,Zi,Zu,Zu,Zs,Zs],cells j [I6 F,U6 a2.ae,U6 a1,Zs,Zs],cells l [U6 a2.ap.ID,U6 a2.ae,I6 d],bp eL D m] R) ?_ ?_
 {
 refine ww (mF z fI (mL z (b.bc3 z) (mb z (mb z (bs c ?_ ?_)))))
 {
 refine fun g c=>gg g (xF z fI z) (gg g (xL z (b.bc4 z)) (gg g (xF z fI z) (gg g (xF z fI z) (gg g (xL z (b.bc1 z)) (gb g z (mb (bi g z z) (nt (bw c z ?_ ?_))))))))
 {
 refine fun k2 c=>wrl (mF z fI ?_)
 replace b:=b.aA
 refine byk (I6 13) b z sI (oC z oN) fun v2 b=>nt ?_
 cases c
 exact ⟨_,e5,fy z,b.bq.bq.aD.bq.bq.bq.lh⟩
}
 refine fun k2 c=>al (tn ?_)
 cases c
 exact ⟨b6,e5,fy z,b.bq.bq.bq.bq.bq.bq.lh⟩
}
 refine fun g c=>go g (go g (go g (go g (go g (go g (mb (aL g z z) (nt (cJ z (al (tn ?_))))))))))
 cases c
 exact ⟨b6,e5,fy z,b.bq.bq.bq.bq.bq.bq.lh⟩
}
 rintro _ v3 ⟨F,c,⟨v4,rfl⟩,b⟩
 dsimp only [eY] at c
 refine aj ?_
 obtain ⟨G,f8,f9,g0,g1,d0,d1,v5,⟨rfl,H,J,P,K⟩,k3⟩:=bS b
 have b:=k3
 refine rg b 17 [0,1,3,7,0,16,48,0,128,384,0,2047,4095,8191,8191,16383,65535] [] mixed (sp 0 z z (sp 1 z z (sF 2 z z fI (sL 3 z z (·.bc0 z) (sF 4 z z fI (sF 5 z z fI (sL 6 z z (·.bc4 z) (sF 7 z z fI (sF 8 z z fI (sL 9 z z (·.bc4 z) (sh _ 10 z (fun w b=>xN z (b.Ji 0 tz)) (e1 11 z z fun w b=>?_))))))))))))
 have V:Ro aK I (.slice none 0 0) []:=dc
 have X:Ro (eC aH) I (.slice none 0 0) []:=dc
 obtain ⟨e6,k4,c⟩:=bn c
 refine wec call151 [g0,U6 a2.ID.ab,U6 a2.ID.Seq,.agg #[I6 F,U6 a2.ae,U6 a1,Zs,Zs]] z z ((wI (a3:=({E:=F,ae:=a2.ae,Index:=a1,dT:=[],aX:=[]}:bB)) P V X b.to0 k4).mono ?_)
 rintro _ v6 ⟨d2,Y,rfl,Q,b7,b⟩
 refine ⟨_,z,?_⟩
 replace b:=b.of0
 replace Z:=Z.mono (qK Q)
 replace H:=H.mono (ro_le Q)
 replace J:=J.mono (ro_le Q)
 replace P:=P.mono (ro_le Q)
 replace K:=K.mono (ro_le Q)
 replace V:=V.mono (ro_le Q)
 replace X:=X.mono (ro_le Q)
 replace L:=L.trans Q
 refine w0n b (sz (.tuple #[Y,I6 e6.2]) 12 z z (sz (Y) 13 z z (si 14 z z (sz (Y) 15 z z (si 16 z z (bt ?_))))))
 refine fun w b=>tn (aj (ww (mi z (mb z (nt (bw c z ?_ ?_))))))
 {
 refine fun k5 c=>aj (aj (rg b 13 [0,1,3,7,0,16,48,127,255,0,512,1536,4095] [] mixed (sp 0 z z (sp 1 z z (sF 2 z z fI (sL 3 z z (·.bc0 z) (sF 4 z z fI (sF 5 z z fI (sL 6 z z (·.bc4 z) (sF 9 z z fI (sF 10 z z fI (sL 11 z z (·.bc4 z) (e1 7 z z fun w b=>bk c fun g2 k6 c=>wec call93 [g0,U6 a2.ID.ab] z z ((pp P b.to0 k6).mono ?_))))))))))))))
 rintro _ v7 ⟨d3,v8,v9,rfl,b8,k7,k8,b⟩
 refine ⟨_,z,?_⟩
 replace b:=b.of0
 replace H:=H.mono (ro_le b8)
 replace J:=J.mono (ro_le b8)
 replace P:=P.mono (ro_le b8)
 replace K:=K.mono (ro_le b8)
 replace L:=L.trans b8
 refine wn [11,10,9] b (pL z z (·.bc4 z) (pF z z fI (pF z z fI aT))) (wsr (.int .u64 g2.Seq) 8 rfl rfl rfl krA (fun w b=>by obtain ⟨_,_,hv_,_⟩:=(ak k8); rw [hv_]; obtain ⟨_,_,hv_,_⟩:=(ak k7); rw [hv_]; kernel_rfl) (wsr (.bool (decide (g2.Seq>a2.ID.Seq))) 12 rfl rfl rfl krA (fun w b=>rfl) (bt ?_)))
 refine fun w b=>tn (bw c z ?_ ?_)
 {
 refine fun k9 c=>ww (mF z fI (mz (xN (cs:=[U6 a2.ID.ab,U6 a2.ID.Seq]) z (b.BI 1 z)) (mk (.agg #[I6 10,Zu,Zu,Zs,Zs]) (mk (.agg #[U1 4,U6 a2.ID.ab,U6 a2.ID.Seq,I6 10,Zu,Zu,Zs,Zs]) ?_))))
 replace b:=b.bq
 refine bxk b z sI (oJ 8 z oN) fun x0 b=>nt (ar (bh (bh ?_)))
 have l0:Ro aK d3 (.slice none 0 0) []:=dc
 have l1:Ro (eC aH) d3 (.slice none 0 0) []:=dc
 replace b:=aC (Pt G 0) a0 b.bj.bj.bj.bj ⟨z,H,J,P,K⟩
 cases c
 exact prI z (rN z (b.fO 0 tz)) ⟨_,Zs,Zs,z,L,l0,l1,b.bF⟩
}
 refine fun k9 c=>al (tn (ww (mk (.agg #[Zb,Zu,Zu,Zi,Zu,Zu,Zs,Zs]) ?_)))
 replace b:=b.bq
 refine bxk b z sI (oJ 8 z oN) fun x1 b=>nt (ar (bh ?_))
 have l2:Ro aK d3 (.slice none 0 0) []:=dc
 have l3:Ro (eC aH) d3 (.slice none 0 0) []:=dc
 replace b:=aC (Pt G 0) a0 b.bj.bj.bj.bj ⟨z,H,J,P,K⟩
 cases c
 exact prI z (rN z (b.fO 0 tz)) ⟨_,Zs,Zs,z,L,l2,l3,b.bF⟩
}
 refine fun k5 c=>al (tn (ww (mp z (mv (Y) z (mp z (mF z fI (b1k Y b z (oS (ak b7)) sI fun x2 b=>nt ?_)))))))
 obtain ⟨x3,c,g3⟩:=bn c
 refine cR (fun a w=>∃ (e7:HL) (e8:aq),(mK a2 F a1) e8=some r∧fz 204 [5,6,7] [Pt h 0,Pt i 0,Pt j 0] a∧d2.le e7∧St w0 w e7 [cells h [U1 a2.Kind,U6 a2.ID.ab,U6 a2.ID.Seq,U6 a2.ae,U6 a2.Index,I6 a2.E,U6 a2.br.ID.ab,U6 a2.br.ID.Seq,U6 a2.br.ae,p,q,s,t,u,I6 a2.R.E,U6 a2.R.ae,U6 a2.R.Index,x,y,U6 a2.bY,B,U6 a2.ap.ID,I6 a2.ap.dn,I6 a2.ap.To,F6 a2.ap.Lo,F6 a2.ap.Hi,U6 a2.ap.Authority,I6 a2.ap.cx,.bool a2.On],cells i [Zb,Zu,Zu,Zi,Zu,Zu,Zs,Zs],cells j [I6 F,U6 a2.ae,U6 a1,Zs,Zs],bm (Pt G 0) e8] R) ?_ ?_
 {
 have d4:=HL.le.refl d2
 refine ww (mF z fI (mL z (b.bc6 z) (mb z (nt (bw c z ?_ ?_)))))
 {
 refine fun l4 c=>ww (mF z fI (mL z (b.bc7 z) (mi z (mF z fI ?_))))
 replace b:=b.aW
 refine byk (I6 (i64.wrap (d+1))) b z sI (oC z oN) fun x4 b=>nt (ww (mp z (mv (D) z (mz (xN z (b.fm 0 tz)) ?_))))
 obtain ⟨e9,l5,l6,l7,b⟩:=b.lits (E:=eL) (xs:=[({ap:=a2.ap.ID,ae:=a2.ae,N:=(i64.wrap (d+1))}:eO)]) [[U6 a2.ap.ID,U6 a2.ae,I6 (i64.wrap (d+1))]] 249 1 z (bT.cons z bT.nil)
 refine cK (v:=(.slice (some ⟨e9,0,none⟩) 1 1)) (w':=l5) z z (dH krA l6 l7) ?_
 obtain ⟨l8,c⟩:=cF c
 replace b:=b.ca
 obtain ⟨b1,l9,m0,b⟩:=bO DD underlying128 b b.iL (cP l8 z) 128
 refine cK (v:=b1) (w':=l9) z z (ck z z m0) (mp z (mF z fI ?_))
 replace b:=b.aA
 refine b1k b1 b z (oS b.sv1) sI fun x5 b=>nt (rg b 36 [0,0,2,6,14,0,32,96,0,0,512,1536,3840,7936,16128,32512,0,65536,196608,0,524288,0,2097152,6291456,14680064,0,33554432,100663296,234881024,534781696,1073741792,2147483616,4294967294,8589934591,17179869183,34359738367] [] mixed (sp 0 z z (sp 1 z z (sp 2 z z (sF 3 z z fI (sL 4 z z (·.bc0 z) (sF 5 z z fI (sF 6 z z fI (sL 7 z z (·.bc7 z) (sp 8 z z (sF 9 z z fI (sF 10 z z fI (sL 11 z z (·.bc7 z) (sF 16 z z fI (sF 17 z z fI (sL 18 z z (·.bc7 z) (sF 19 z z fI (sL 20 z z (·.bc7 z) (sF 21 z z fI (sL 22 z z (·.bc7 z) ?_))))))))))))))))))))
 obtain ⟨b2,m1,c⟩:=bn c
 obtain ⟨g4,g5,m2⟩:=aV m1
 refine sh _ 23 z (fun w b=>aJ z z uI sI (ay Z) g4 g5) ?_
 obtain ⟨x6,m3,g6⟩:=Rd.lC Z m2
 obtain ⟨f0,rfl,m4,-⟩:=m3
 refine sh _ 24 z (fun w b=>xN (cs:=[F6 b2.At,.bool b2.Del,f0]) z (et (o:=0) (g6 lr b) z)) (sp 25 z z (sp 26 z z (sF 27 z z fI (sL 28 z z (·.bc0 z) (e1 12 z z fun w b=>bk c fun g7 m5 c=>sB z (er call92 (caps:=[]) z (vs:=[Pt G 0,I6 a2.ap.To]) z) (Calls.mono (show Calls prog 92 #[Pt G 0,I6 a2.ap.To] _ (fun e w'=>∃ (S:(List dw)) (f1:Value),S=g7∧e = .returned (f1)∧St w0 w' d2 [bp cL f1 S,cells G [I6 a0.zJ,U6 a0.ae,f8,f9,Y,g1,d0,d1,b1],bp bc d0 a0.Open,bp cL d1 a0.Out,bp eL b1 (m++([({ap:=a2.ap.ID,ae:=a2.ae,N:=(i64.wrap (d+1))}:eO)])),cells h [U1 a2.Kind,U6 a2.ID.ab,U6 a2.ID.Seq,U6 a2.ae,U6 a2.Index,I6 a2.E,U6 a2.br.ID.ab,U6 a2.br.ID.Seq,U6 a2.br.ae,p,q,s,t,u,I6 a2.R.E,U6 a2.R.ae,U6 a2.R.Index,x,y,U6 a2.bY,B,U6 a2.ap.ID,I6 a2.ap.dn,I6 a2.ap.To,F6 a2.ap.Lo,F6 a2.ap.Hi,U6 a2.ap.Authority,I6 a2.ap.cx,.bool a2.On],cells i [Zb,Zu,Zu,Zi,Zu,Zu,Zs,Zs],cells j [I6 F,U6 a2.ae,U6 a1,Zs,Zs],cells l [U6 a2.ap.ID,U6 a2.ae,I6 (i64.wrap (d+1))],bp eL (.slice (some ⟨e9,0,none⟩) 1 1) ([({ap:=a2.ap.ID,ae:=a2.ae,N:=(i64.wrap (d+1))}:eO)])] R) from ?_) ?_))))))
 {
 clear c; have c:=m5
 refine c0 func92 z z (ww (mv ((.slice none 0 0)) z (nt (ww (mv ((.slice none 0 0)) z (nt (aj (ww (mi z (nt (au ?_)))))))))))
 replace b:=b.de.sub.ba cL
 obtain ⟨m6,c⟩:=aS c
 refine bg (fun n a w=>∃ (b3:(List dw)) (f2:Int) (O:Value),cU (gR a0 a2) n (b3,f2)=some g7∧fz 37 [0,1,5,6] [Pt G 0,I6 a2.ap.To,O,I6 f2] a∧St w0 w d2 [bp cL O b3,cells G [I6 a0.zJ,U6 a0.ae,f8,f9,Y,g1,d0,d1,b1],bp eL b1 (m++([({ap:=a2.ap.ID,ae:=a2.ae,N:=(i64.wrap (d+1))}:eO)])),bp eL (.slice (some ⟨e9,0,none⟩) 1 1) ([({ap:=a2.ap.ID,ae:=a2.ae,N:=(i64.wrap (d+1))}:eO)]),cells l [U6 a2.ap.ID,U6 a2.ae,I6 (i64.wrap (d+1))],bp bc d0 a0.Open,bp cL d1 a0.Out,cells h [U1 a2.Kind,U6 a2.ID.ab,U6 a2.ID.Seq,U6 a2.ae,U6 a2.Index,I6 a2.E,U6 a2.br.ID.ab,U6 a2.br.ID.Seq,U6 a2.br.ae,p,q,s,t,u,I6 a2.R.E,U6 a2.R.ae,U6 a2.R.Index,x,y,U6 a2.bY,B,U6 a2.ap.ID,I6 a2.ap.dn,I6 a2.ap.To,F6 a2.ap.Lo,F6 a2.ap.Hi,U6 a2.ap.Authority,I6 a2.ap.cx,.bool a2.On],cells i [Zb,Zu,Zu,Zi,Zu,Zu,Zs,Zs],cells j [I6 F,U6 a2.ae,U6 a1,Zs,Zs]] R) m6 ⟨[],0,Zs,c,fy z,b⟩ ?_
 rintro x7 _ x8 ⟨b3,f2,O,c,⟨x9,rfl⟩,b⟩
 obtain ⟨y0,y1,rfl,c,f3⟩:=aU c
 dsimp only [gR] at c
 refine aj (ww (mi z (mp z (mp z (mF z fI (mL z (b.bc1 z) (mz (bX z uI b.sv6) (mb z (nt (bw c z ?_ ?_))))))))))
 {
 refine fun m7 c=>al (tn (aj (au (ww (mp z (mp z (mF z fI (mL z (b.bc1 z) (mi z ?_)))))))))
 obtain ⟨k,m8,c⟩:=bn c
 obtain ⟨g8,g9,m9⟩:=aV m8
 refine mz (aJ z z uI sI b.sv6 g8 g9) (mz (xG z fI z) ?_)
 obtain ⟨y2,n0,h0⟩:=b.og6 m9
 obtain ⟨h1,rfl,h2,-⟩:=n0
 refine mL z (h0 0 _ z) (mi z (mb z (nt (bw c z ?_ ?_))))
 {
 refine fun n1 c=>wrl (mv (O) z (mp z (mp z (mF z fI (mL z (b.bc1 z) (mi z (mz (aJ z z uI sI b.sv6 g8 g9) (mz (xN (cs:=[I6 k.To,U6 k.N,U6 k.ap,U6 k.ae,F6 k.W.At,.bool k.W.Del,h1]) z (et (o:=0) h0 z)) ?_))))))))
 obtain ⟨n2,n3,n4,n5,b⟩:=b.lits (E:=cL) (xs:=[k]) [[I6 k.To,U6 k.N,U6 k.ap,U6 k.ae,F6 k.W.At,.bool k.W.Del,h1]] 53 1 z (bT.cons ⟨_,z,h2,oS (ak h2)⟩ bT.nil)
 refine cK (v:=(.slice (some ⟨n2,0,none⟩) 1 1)) (w':=n3) z z (dH krA n4 n5) ?_
 obtain ⟨n6,c⟩:=cF c
 replace b:=b.ah
 obtain ⟨f4,n7,n8,b⟩:=bO vu underlying50 b b.iL (cP n6 z) 50
 refine cK (v:=f4) (w':=n7) z z (ck z z n8) (mv (f4) z (dv (bJ (tn (wrl (mi z (mi z (mi z (nt ?_)))))))))
 cases c
 exact ⟨_,nls,(b3++([k])),_,f4,f3,fy z,b.bR.bR.bR.bR.bR.bR.bR.bR.bR.ca.zi⟩
}
 refine fun n1 c=>al (bJ (tn (wrl (mi z (mi z (mi z (nt ?_)))))))
 cases c
 exact ⟨_,nls,b3,_,O,f3,fy z,b.ca.ca.ca.ca.ca.ca.ca.ca.ca.ca.zi⟩
}
 refine fun m7 c=>bH (aQ (aQ ?_))
 replace c:=bz c f3
 refine cZ (tn (ww (mv (O) z (mv (O) z (nt (ar (dI [O] z (rc z bl) ?_)))))))
 obtain rfl:=sj c
 exact ⟨b3,O,z,z,b.aA.bj.ca.ca.ca.aW.ca.ca.ca.ca.zi⟩
}
 rintro _ y3 ⟨S,f1,rfl,rfl,b⟩
 refine ⟨_,z,?_⟩
 try dsimp only at c
 refine wn [28,27,26,25,24,23,22,21,20,19,18,17,16,7,6,5,4,3,2,1,0] b (pL z z (·.bc1 z) (pF z z fI (pz (pz (pkr z z (fun w b=>xN (cs:=[F6 b2.At,.bool b2.Del,f0]) z (et (o:=0) (g6 lr b) z)) (pkr z z (fun w b=>aJ z z uI sI (ay Z) g4 g5) (pL z z (·.bc5 z) (pF z z fI (pL z z (·.bc5 z) (pF z z fI (pL z z (·.bc5 z) (pF z z fI (pF z z fI (pL z z (·.bc5 z) (pF z z fI (pF z z fI (pL z z (·.bc1 z) (pF z z fI (pz (pz (pz aT))))))))))))))))))))) (sh _ 13 z (fun w b=>bX z uI b.sv0) (si 14 z z (sk (.int .u64 (u64.wrap (i64.wrap (((S).length:Int)+1)))) 15 z (e1 29 z z fun w b=>?_))))
 refine bk c fun b4 n9 c=>wec call16 [.agg #[F6 b2.At,.bool b2.Del,f0],I6 a0.zJ] z z (kdI (Bx (m4.mono (cW _)) b.to0 n9) fun h3 y4 b=>wn [15,14,13,20,19,18,17,16,7,6,5,4,3,2,1,0] b (pkr z z (fun w b=>by kernel_rfl) (pz (pkr z z (fun w b=>bX z uI b.sv1) (pL z z (·.bc6 z) (pF z z fI (pL z z (·.bc6 z) (pF z z fI (pF z z fI (pL z z (·.bc6 z) (pF z z fI (pF z z fI (pL z z (·.bc2 z) (pF z z fI (pz (pz (pz aT)))))))))))))))) ?_)
 refine wsr (.agg #[I6 a2.ap.To,U6 (u64.wrap (i64.wrap (((S).length:Int)+1))),U6 a2.ap.ID,U6 a2.ae,F6 b4.At,.bool b4.Del,h3]) 30 rfl rfl rfl krA (fun w b=>by obtain ⟨_,_,hv_,_⟩:=b.sv0; rw [hv_]; kernel_rfl) (e1 31 z z fun w b=>?_)
 obtain ⟨y5,b9,h4,b⟩:=b.cO
 replace H:=H.mono (ro_le b9)
 replace J:=J.mono (ro_le b9)
 replace K:=K.mono (ro_le b9)
 replace b7:=b7.mono (ro_le b9)
 replace d4:=d4.trans b9
 obtain ⟨o0,o1,o2,o3,b⟩:=b.lits (E:=cL) (xs:=[({To:=a2.ap.To,N:=(u64.wrap (i64.wrap (((S).length:Int)+1))),ap:=a2.ap.ID,ae:=a2.ae,W:=b4}:dw)]) [[I6 a2.ap.To,U6 (u64.wrap (i64.wrap (((S).length:Int)+1))),U6 a2.ap.ID,U6 a2.ae,F6 b4.At,.bool b4.Del,h3]] 53 1 z (bT.cons ⟨_,z,h4,oS (ak h4)⟩ bT.nil)
 refine cj (v:=(.slice (some ⟨o0,0,none⟩) 1 1)) (w':=o1) z (dH krA o2 o3) (wn [4,3,2,1,0] b (pL z z (·.bc2 z) (pF z z fI (pz (pz (pz aT))))) (e1 32 z z fun w b=>?_))
 obtain ⟨o4,c⟩:=cF c
 replace b:=b.bj
 obtain ⟨h5,o5,o6,b⟩:=bO vu underlying50 b b.iL (cP o4 z) 50
 refine cj (v:=h5) (w':=o5) z (ck z z o6) (wn [0] b (pz aT) (sp 33 z z (sF 34 z z fI (e1 35 z z fun w b=>?_))))
 replace b:=b.aA
 refine b1e h5 b z (oS b.sv1) sI fun y6 b=>w0n b (bt ?_)
 refine fun w b=>tn ?_
 cases c
 exact ⟨_,_,g3,fy z,d4,(aC (Pt G 0) (({a0 with A:=e6.1,Out:=(a0.Out++([({To:=a2.ap.To,N:=(u64.wrap (i64.wrap (((S).length:Int)+1))),ap:=a2.ap.ID,ae:=a2.ae,W:=b4}:dw)])),pT:=(m++([({ap:=a2.ap.ID,ae:=a2.ae,N:=(i64.wrap (d+1))}:eO)]))}:aq)) b.bq.aD.bq.aA ⟨z,H,J,b7,K⟩).bq.bq.bq.eQ⟩
}
 refine fun l4 c=>al (tn ?_)
 cases c
 exact ⟨_,_,g3,fy z,d4,(aC (Pt G 0) (({a0 with A:=e6.1}:aq)) b.aA.aA.aA.aA ⟨z,H,J,b7,K⟩).aA.aA.aA.eQ⟩
}
 rintro _ y7 ⟨e7,e8,c,⟨y8,rfl⟩,f5,b⟩
 dsimp only [mK] at c
 replace V:=V.mono (ro_le f5)
 replace X:=X.mono (ro_le f5)
 replace L:=L.trans f5
 refine ww (mF z fI (mz (xN (cs:=[U6 a2.ID.ab,U6 a2.ID.Seq]) z (b.fm 1 z)) (mz (xN z (b.ta 0 tz)) (mk (.agg #[U1 4,U6 a2.ID.ab,U6 a2.ID.Seq,I6 F,U6 a2.ae,U6 a1,Zs,Zs]) ?_))))
 replace b:=b.ah
 refine bxk b z sI (oJ 6 z (oC (oS (ak V)) (oC (oS (ak X)) oN))) fun y9 b=>nt (ar ?_)
 cases c
 exact prI z (rN z (b.fm 0 tz)) ⟨_,Zs,Zs,z,L,V,X,b.aA.bF⟩
}
theorem vU {a0:aq} {p0:Value} {a1:Int} {a2:aG} {h i j k t u x y:Value} (J:Ro cp I h a2.br.dO) (K:Ro fU I i a2.br.aX) (L:Ro cp I j a2.br.dD) (M:Ro (cr .u8) I k a2.br.Data) (l:Ro cG I t a2.cw) (f0:Ro aK I u a2.R.dT) (f1:Ro (eC aH) I x a2.R.aX) (f2:Ro cN I y a2.dM) (b:St w0 w I [bm p0 a0] R) {r:(bU×aq)} (c:dq a0 a1 a2=some r) :
  Calls prog 30 #[p0,U6 a1,.agg #[U1 a2.Kind,U6 a2.ID.ab,U6 a2.ID.Seq,U6 a2.ae,U6 a2.Index,I6 a2.E,U6 a2.br.ID.ab,U6 a2.br.ID.Seq,U6 a2.br.ae,h,i,j,k,t,I6 a2.R.E,U6 a2.R.ae,U6 a2.R.Index,u,x,U6 a2.bY,y,U6 a2.ap.ID,I6 a2.ap.dn,I6 a2.ap.To,F6 a2.ap.Lo,F6 a2.ap.Hi,U6 a2.ap.Authority,I6 a2.ap.cx,.bool a2.On]] w fun e w'=>∃ (I':HL) (f3:Value) (f4:Value),e = .returned (.agg #[U1 r.1.Kind,U6 r.1.ID.ab,U6 r.1.ID.Seq,I6 r.1.R.E,U6 r.1.R.ae,U6 r.1.R.Index,f3,f4])∧I.le I'∧Ro aK I' f3 r.1.R.dT∧Ro (eC aH) I' f4 r.1.R.aX∧St w0 w' I' [bm p0 r.2] R:=by {
 unfold dq at c
 refine c0 func30 z z ?_
 have d:=HL.le.refl I
 refine ww ?_
 obtain ⟨N,v3,i4,i5,b⟩:=b.box [U1 a2.Kind,U6 a2.ID.ab,U6 a2.ID.Seq,U6 a2.ae,U6 a2.Index,I6 a2.E,U6 a2.br.ID.ab,U6 a2.br.ID.Seq,U6 a2.br.ae,h,i,j,k,t,I6 a2.R.E,U6 a2.R.ae,U6 a2.R.Index,u,x,U6 a2.bY,y,U6 a2.ap.ID,I6 a2.ap.dn,I6 a2.ap.To,F6 a2.ap.Lo,F6 a2.ap.Hi,U6 a2.ap.Authority,I6 a2.ap.cx,.bool a2.On] 49
 refine wa i4 i5 ?_
 obtain ⟨A,v4,i6,i7,b⟩:=b.box [Zb,Zu,Zu,Zi,Zu,Zu,Zs,Zs] 35
 refine wa i6 i7 (nt (aj (ww (mF z fI (mL z (b.bc1 z) (nt (au (ww (mb z (mb z (nt (bw c z ?_ ?_))))))))))))
 {
 refine fun i8 c=>aj (aj ?_)
 obtain ⟨b7,v5,v6,v7,v8,v9,x0,x1,⟨rfl,f5,f6,f7,f8⟩,i9⟩:=bS b.aD
 have b:=i9
 refine rg b 12 [0,1,0,4,12,28,63,127,255,511,1023,2047] [] mixed (sF 0 z z fI (sL 1 z z (·.bc5 z) (sp 2 z z (sp 3 z z (sF 4 z z fI (sL 5 z z (·.bc0 z) (sb 6 z z (sb 7 z z (bs c ?_ ?_)))))))))
 {
 refine fun p c=>so 8 z p (so 9 z p (so 10 z p (sh (.bool _) 11 z (fun w b=>bi p z z) (bt ?_))))
 refine fun w b=>tn (eG z (ww (mk (.agg #[Zb,Zu,Zu,Zi,Zu,Zu,Zs,Zs]) ?_)))
 replace b:=b.bj
 refine bxk b z sI (oJ 8 z oN) fun x2 b=>nt (ar (bh (eo (bh ?_))))
 have j0:Ro aK I (.slice none 0 0) []:=dc
 have j1:Ro (eC aH) I (.slice none 0 0) []:=dc
 replace b:=aC (Pt b7 0) a0 b.bj.bj.bj.bj ⟨z,f5,f6,f7,f8⟩
 cases c
 exact prI z (rN z (b.fO 0 tz)) ⟨_,Zs,Zs,z,d,j0,j1,b.bF⟩
}
 refine fun p c=>sgz (Pt _ _) 8 z p z (iN 9 krA (nxe [10,11] krA z ((av z z z (cvb p)).trans z) ?_))
 clear b
 intro w b
 replace b:=aC (Pt b7 0) a0 b.aA.aA.aA.aA ⟨z,f5,f6,f7,f8⟩
 obtain ⟨x3,j2,c⟩:=bn c
 refine wec call67 [Pt b7 0] z z (kcI (tp b.to1 j2) fun x4 b=>w0n b (sgz (.bool _) 10 z p z (sh (.bool _) 11 z (fun w b=>aL p z z) (bt ?_))))
 refine fun w b=>tn (bw c z ?_ ?_)
 {
 refine fun j3 c=>ww (mk (.agg #[Zb,Zu,Zu,Zi,Zu,Zu,Zs,Zs]) ?_)
 replace b:=b.ah
 refine bxk b z sI (oJ 8 z oN) fun x5 b=>nt (ar (bh (eo (bh ?_))))
 have j4:Ro aK I (.slice none 0 0) []:=dc
 have j5:Ro (eC aH) I (.slice none 0 0) []:=dc
 cases c
 exact prI z (rN z (b.fm 0 tz)) ⟨_,Zs,Zs,z,d,j4,j5,b.ah.bF⟩
}
 refine fun j3 c=>al (tn (ww (mp z ?_)))
 obtain ⟨x6,x7,x8,x9,y0,y1,y2,y3,⟨c6,j6,j7,j8,j9⟩,k0⟩:=bS b
 replace c6:=ez c6
 subst c6
 have b:=k0
 refine mp z (mF z fI (mL z (b.bc0 z) (mi z (mp z (mF z fI (byk (U6 (u64.wrap (a0.ae+1))) b z sI (oC z oN) fun y4 b=>nt (aj (ww (mp z (mp z (mF z fI (mL z (b.bc0 z) (mb z (nt (bw c z ?_ ?_)))))))))))))))
 {
 intro k1 c
 cases c
}
 refine fun k1 c=>al (tn (ww (mk (.agg #[U1 1,Zu,Zu,Zi,Zu,Zu,Zs,Zs]) ?_)))
 replace b:=b.bj
 refine bxk b z sI (oJ 8 z oN) fun y5 b=>nt (ar (eo (bh ?_)))
 have k2:Ro aK I (.slice none 0 0) []:=dc
 have k3:Ro (eC aH) I (.slice none 0 0) []:=dc
 replace b:=aC (Pt b7 0) (({a0 with ae:=(u64.wrap (a0.ae+1))}:aq)) b.bj.bj.bj.bj ⟨z,j6,j7,j8,j9⟩
 cases c
 exact prI z (rN z (b.fO 0 tz)) ⟨_,Zs,Zs,z,d,k2,k3,b.bF⟩
}
 refine fun i8 c=>ww (mb z (mb z (nt (bw c z ?_ ?_))))
 {
 refine fun k4 c=>ww (mF z fI (mF z fI (mz (xN (cs:=[U6 a2.br.ID.ab,U6 a2.br.ID.Seq]) z (b.fO 6 z)) (mk (.agg #[U1 2,U6 a2.br.ID.ab,U6 a2.br.ID.Seq,Zi,Zu,Zu,Zs,Zs]) ?_))))
 obtain ⟨f9,y6,k5,k6,b⟩:=b.box [Zb,Zu,Zu,Zi,Zu,Zu,Zs,Zs] 35
 refine wa k5 k6 (bxk b z sI (oJ 8 z oN) fun y7 b=>nt (ww (mv (p0) z (mF z fI (mz (xN (cs:=[U6 a2.br.ID.ab,U6 a2.br.ID.Seq,U6 a2.br.ae,h,i,j,k]) z (b.ta 6 z)) ?_)))))
 replace b:=b.aA
 obtain ⟨b8,k7,c⟩:=bn c
 refine wc call69 [p0,.agg #[U6 a2.br.ID.ab,U6 a2.br.ID.Seq,U6 a2.br.ae,h,i,j,k]] z z z ((wF J K L M b.to1 k7).mono ?_)
 rintro _ y8 ⟨g0,rfl,Z,b⟩
 refine ⟨_,z,?_⟩
 replace b:=b.of1
 replace J:=J.mono (ro_le Z)
 replace K:=K.mono (ro_le Z)
 replace L:=L.mono (ro_le Z)
 replace M:=M.mono (ro_le Z)
 replace d:=d.trans Z
 refine mi z (nt ?_)
 obtain ⟨y9,c,g1⟩:=bn c
 refine cR (fun a w=>∃ (c7:HL) (m:bU) (b9:Value) (c1:Value),(mg b8) m=some r∧fz 198 [6,7,8] [Pt A 0,Pt f9 0,I6 b8.1] a∧g0.le c7∧St w0 w c7 [cells A [Zb,Zu,Zu,Zi,Zu,Zu,Zs,Zs],cells f9 [U1 m.Kind,U6 m.ID.ab,U6 m.ID.Seq,I6 m.R.E,U6 m.R.ae,U6 m.R.Index,b9,c1],bp aK b9 m.R.dT,bp (eC aH) c1 m.R.aX,bm p0 b8.2] R) ?_ ?_
 {
 have c2:=HL.le.refl g0
 refine ww (mi z (mb z (nt (bw c z ?_ ?_))))
 {
 refine fun k8 c=>wrl (mv (p0) z (mF z fI (mz (xN (cs:=[U6 a2.br.ID.ab,U6 a2.br.ID.Seq,U6 a2.br.ae,h,i,j,k]) z (b.ul 6 z)) (bk c fun c8 k9 c=>wc call34 [p0,.agg #[U6 a2.br.ID.ab,U6 a2.br.ID.Seq,U6 a2.br.ae,h,i,j,k]] z z z ((wJ (J.mono cS) (K.mono cS) (L.mono cS) (M.mono cS) b.to1 k9).mono ?_)))))
 rintro _ A0 ⟨A1,g2,g3,rfl,l0,b⟩
 refine ⟨_,z,?_⟩
 replace b:=b.of3
 replace c2:=c2.trans l0
 refine mF z fI ?_
 replace b:=b.aA
 refine byk (.agg #[I6 c8.E,U6 c8.ae,U6 c8.Index,g2,g3]) b z sI (oJ 3 z (oC (oS b.sv1) (oC (oS b.sv2) oN))) fun A2 b=>nt ?_
 cases c
 exact ⟨_,_,g2,g3,g1,fy z,c2,b.aA.aA.aA.aA.bj.oB⟩
}
 refine fun k8 c=>al (tn ?_)
 cases c
 exact ⟨_,_,Zs,Zs,g1,fy z,c2,((b.ba aK).ba (eC aH)).aD.ah.aD.aA.bj.oB⟩
}
 rintro _ A3 ⟨c7,m,b9,c1,c,⟨A4,rfl⟩,l1,b⟩
 dsimp only [mg] at c
 replace d:=d.trans l1
 refine ww (mi z (mF z fI (mF z fI ?_)))
 replace b:=b.ah
 refine byk (I6 b8.1) b z sI (oC z oN) fun A5 b=>nt (ww (mz (xN z (b.fm 0 tz)) ?_))
 replace b:=b.ah
 refine bxk b z sI (oJ 6 z (oC (oS b.sv2) (oC (oS b.sv3) oN))) fun A6 b=>nt (ar (eo (bh ?_)))
 replace b:=b.aD
 obtain ⟨A7,l2,c9,b⟩:=b.cO
 replace d:=d.trans l2
 replace b:=b.aD
 obtain ⟨A8,g4,l3,b⟩:=b.cO
 replace c9:=c9.mono (ro_le g4)
 replace d:=d.trans g4
 cases c
 exact prI z (rN z (b.fm 0 tz)) ⟨_,b9,c1,z,d,c9,l3,b.aD.bF⟩
}
 refine fun k4 c=>ww (mb z (mb z (nt (bw c z ?_ ?_))))
 {
 refine fun l4 c=>aj ?_
 obtain ⟨q,A9,g5,B0,B1,B2,B3,B4,⟨rfl,O,C,P,Q⟩,l5⟩:=bS b.aD
 have b:=l5
 obtain ⟨B5,c,g6⟩:=bn c
 refine vy (fun a w=>∃ (b0:HL) (b1:Bool),(jM a0 a2) b1=some r∧fz 198 [0,5,6,10] [Pt q 0,Pt N 0,Pt A 0,.bool b1] a∧I.le b0∧St w0 w b0 [bm (Pt q 0) a0,cells N [U1 a2.Kind,U6 a2.ID.ab,U6 a2.ID.Seq,U6 a2.ae,U6 a2.Index,I6 a2.E,U6 a2.br.ID.ab,U6 a2.br.ID.Seq,U6 a2.br.ae,h,i,j,k,t,I6 a2.R.E,U6 a2.R.ae,U6 a2.R.Index,u,x,U6 a2.bY,y,U6 a2.ap.ID,I6 a2.ap.dn,I6 a2.ap.To,F6 a2.ap.Lo,F6 a2.ap.Hi,U6 a2.ap.Authority,I6 a2.ap.cx,.bool a2.On],cells A [Zb,Zu,Zu,Zi,Zu,Zu,Zs,Zs]] R) ?_ ?_
 {
 have S:=HL.le.refl I
 refine rg b 13 [0,1,3,7,0,16,63,127,255,255,0,1535,4095] [] mixed (sp 0 z z (sp 1 z z (sF 2 z z fI (sL 3 z z (·.bc0 z) (sF 4 z z fI (sh _ 5 z (fun w b=>xN (cs:=[U6 a2.ID.ab,U6 a2.ID.Seq]) z (b.CT 1 z)) (bk c fun f g7 c=>tZ 6 10 krA ?_ ?_)))))))
 {
 refine nx z z fun w b=>wec call70 [g5,.agg #[U6 a2.ID.ab,U6 a2.ID.Seq]] z z ((mU C b.to0 g7).mono ?_)
 rintro _ B6 ⟨B7,g8,g9,h0,h1,rfl,b2,l6,l7,l8,l9,b⟩
 refine ⟨_,z,?_⟩
 replace b:=b.of0
 replace O:=O.mono (ro_le b2)
 replace C:=C.mono (ro_le b2)
 replace P:=P.mono (ro_le b2)
 replace Q:=Q.mono (ro_le b2)
 replace S:=S.trans b2
 refine w0n b (sz (.tuple #[.agg #[U6 f.1.ID.ab,U6 f.1.ID.Seq,U6 f.1.ae,g8,g9,h0,h1],.bool f.2]) 7 z z (sz (.agg #[U6 f.1.ID.ab,U6 f.1.ID.Seq,U6 f.1.ae,g8,g9,h0,h1]) 8 z z (sb 9 z z (e1 10 z z fun w b=>?_))))
 obtain ⟨m0,m1,m2,m3,b⟩:=b.box [Zu,Zu,Zu,Zs,Zs,Zs,Zs] 46
 refine cj (v:=Pt m0 0) (w':=m1) z (yC krA m2 m3) (wn [9,8,7] b (pz (pz (pz aT))) (e1 11 z z fun w b=>bxe b z sI (oJ 3 z (oC (oS (ak l6)) (oC (oS (ak l7)) (oC (oS (ak l8)) (oC (oS (ak l9)) oN))))) fun B8 b=>wn [9] b (pz aT) (sb 12 z z (bt ?_))))
 intro w b
 refine ⟨z,?_⟩
 cases c
 exact ⟨_,_,g6,fy z,S,(aC (Pt q 0) a0 b.bj.bj.bj.bj ⟨z,O,C,P,Q⟩).aD.aA.aD.eu⟩
}
 refine nx z z fun w b=>?_
 obtain ⟨m4,m5,m6,m7,b⟩:=b.box [Zu,Zu,Zu,Zs,Zs,Zs,Zs] 46
 refine cj (v:=Pt m4 0) (w':=m5) z (yC krA m6 m7) (wn [5,4,3,2,1,0] b (pkr z z (fun w b=>xN (cs:=[U6 a2.ID.ab,U6 a2.ID.Seq]) z (b.Ji 1 z)) (pF z z fI (pL z z (·.bc1 z) (pF z z fI (pz (pz aT)))))) (e1 6 z z fun w b=>wec call70 [g5,.agg #[U6 a2.ID.ab,U6 a2.ID.Seq]] z z ((mU C b.to0 g7).mono ?_)))
 rintro _ B9 ⟨C0,h2,h3,h4,h5,rfl,b3,m8,m9,n0,n1,b⟩
 refine ⟨_,z,?_⟩
 replace b:=b.of0
 replace O:=O.mono (ro_le b3)
 replace C:=C.mono (ro_le b3)
 replace P:=P.mono (ro_le b3)
 replace Q:=Q.mono (ro_le b3)
 replace S:=S.trans b3
 refine w0n b (sz (.tuple #[.agg #[U6 f.1.ID.ab,U6 f.1.ID.Seq,U6 f.1.ae,h2,h3,h4,h5],.bool f.2]) 7 z z (sz (.agg #[U6 f.1.ID.ab,U6 f.1.ID.Seq,U6 f.1.ae,h2,h3,h4,h5]) 8 z z (sb 9 z z (e1 11 z z fun w b=>bxe b z sI (oJ 3 z (oC (oS (ak m8)) (oC (oS (ak m9)) (oC (oS (ak n0)) (oC (oS (ak n1)) oN))))) fun C1 b=>wn [9] b (pz aT) (sb 12 z z (bt ?_))))))
 intro w b
 refine ⟨z,?_⟩
 cases c
 exact ⟨_,_,g6,fy z,S,(aC (Pt q 0) a0 b.bj.bj.bj.bj ⟨z,O,C,P,Q⟩).aD.aA.aD.eu⟩
}
 rintro _ C2 ⟨b0,b1,c,⟨C3,rfl⟩,h6,b⟩
 dsimp only [jM] at c
 replace l:=l.mono (ro_le h6)
 replace d:=d.trans h6
 refine tn (aj ?_)
 obtain ⟨C4,C5,n2,C6,C7,C8,C9,D0,⟨d0,d1,n3,d2,d3⟩,n4⟩:=bS b
 replace d0:=ez d0
 subst d0
 have b:=n4
 refine rg b 11 [0,0,2,6,14,0,32,126,255,511,1023] [] mixed (sp 0 z z (sp 1 z z (sp 2 z z (sF 3 z z fI (sL 4 z z (·.bc0 z) (sF 5 z z fI (sh _ 6 z (fun w b=>xN (cs:=[U6 a2.ID.ab,U6 a2.ID.Seq]) z (b.BI 1 z)) (e1 7 z z fun w b=>bk c fun h7 n5 c=>wec call71 [n2,.agg #[U6 a2.ID.ab,U6 a2.ID.Seq]] z z (kdI (tO n3 b.to0 n5) fun n6 D1 b=>wn [0] b (pz aT) (sp 8 z z (sF 9 z z fI ?_)))))))))))
 refine e1 10 z z fun w b=>?_
 replace b:=b.ah
 refine b1e n6 b z (oS b.sv1) sI fun D2 b=>w0n b (bt ?_)
 refine fun w b=>tn ?_
 obtain ⟨n7,c,d4⟩:=bn c
 refine cR (fun a w=>∃ (b4:HL) (d5:aq),(pq a2) d5=some r∧fz 198 [5,6] [Pt N 0,Pt A 0] a∧b0.le b4∧St w0 w b4 [cells N [U1 a2.Kind,U6 a2.ID.ab,U6 a2.ID.Seq,U6 a2.ae,U6 a2.Index,I6 a2.E,U6 a2.br.ID.ab,U6 a2.br.ID.Seq,U6 a2.br.ae,h,i,j,k,t,I6 a2.R.E,U6 a2.R.ae,U6 a2.R.Index,u,x,U6 a2.bY,y,U6 a2.ap.ID,I6 a2.ap.dn,I6 a2.ap.To,F6 a2.ap.Lo,F6 a2.ap.Hi,U6 a2.ap.Authority,I6 a2.ap.cx,.bool a2.On],cells A [Zb,Zu,Zu,Zi,Zu,Zu,Zs,Zs],bm (Pt q 0) d5] R) ?_ ?_
 {
 have D:=HL.le.refl b0
 refine ww (mi z (nt (au ?_)))
 replace b:=b.ah
 obtain ⟨n8,b5,n9,b⟩:=b.cO
 replace l:=l.mono (ro_le b5)
 replace d1:=d1.mono (ro_le b5)
 replace d2:=d2.mono (ro_le b5)
 replace d3:=d3.mono (ro_le b5)
 replace D:=D.trans b5
 replace b:=aC (Pt q 0) (({a0 with H:=h7}:aq)) b.aA.aA.aA.aA ⟨z,d1,n9,d2,d3⟩
 obtain ⟨o0,c⟩:=aS c
 refine bg (fun n a w=>∃ (d6:HL) (F:aq) (d7:Int),cU (eI b1 a2) n (F,d7)=some n7∧fz 198 [0,5,6,10,11] [Pt q 0,Pt N 0,Pt A 0,.bool b1,I6 d7] a∧n8.le d6∧St w0 w d6 [bm (Pt q 0) F,cells N [U1 a2.Kind,U6 a2.ID.ab,U6 a2.ID.Seq,U6 a2.ae,U6 a2.Index,I6 a2.E,U6 a2.br.ID.ab,U6 a2.br.ID.Seq,U6 a2.br.ae,h,i,j,k,t,I6 a2.R.E,U6 a2.R.ae,U6 a2.R.Index,u,x,U6 a2.bY,y,U6 a2.ap.ID,I6 a2.ap.dn,I6 a2.ap.To,F6 a2.ap.Lo,F6 a2.ap.Hi,U6 a2.ap.Authority,I6 a2.ap.cx,.bool a2.On],cells A [Zb,Zu,Zu,Zi,Zu,Zu,Zs,Zs]] R) o0 ⟨_,({a0 with H:=h7}:aq),0,c,fy z,lr,b⟩ ?_
 rintro D3 _ D4 ⟨d6,F,d7,c,⟨D5,rfl⟩,b6,b⟩
 obtain ⟨D6,D7,rfl,c,c3⟩:=aU c
 dsimp only [eI] at c
 replace l:=l.mono (ro_le b6)
 replace D:=D.trans b6
 refine aj (ww (mb z (mb z (bs c ?_ ?_))))
 {
 refine fun s c=>gg s (xF z fI z) (gg s (xL z (b.bc1 z)) (gb s z (mb (bi s z z) (mb z (bs c ?_ ?_)))))
 {
 refine fun g c=>gi g z (gg g (xF z fI z) (gg g (xL z (b.bc1 z)) (gg g (bX z uI (ak l)) (gb g z (mb (bi g z z) (nt (bw c z ?_ ?_)))))))
 {
 refine fun o1 c=>al (tn (aj (au (ww (mF z fI (mL z (b.bc1 z) (mi z ?_)))))))
 obtain ⟨G,o2,c⟩:=bn c
 obtain ⟨o3,o4,o5⟩:=aV o2
 refine mz (aJ z z uI sI (ak l) o3 o4) ?_
 obtain ⟨D8,o6,o7⟩:=Ro.lC l o5
 obtain ⟨c4,rfl,d8,-⟩:=o6
 refine mz (xN (cs:=[F6 G.At,.bool G.Del,c4]) z (et (o:=0) (o7 lr b) z)) ?_
 obtain ⟨o8,D9,o9,q0,b⟩:=b.box [Zf,.bool false,Zs] 41
 refine wa o9 q0 (bxk b z sI (oJ 2 z (oC (oS (ak d8)) oN)) fun E0 b=>nt ?_)
 obtain ⟨E1,q1,E2,E3,E4,E5,E6,E7,⟨d9,q2,e0,e2,e3⟩,q3⟩:=bS b.ah
 replace d9:=ez d9
 subst d9
 have b:=q3
 refine rg b 20 [0,0,2,6,14,0,32,0,128,0,512,0,2048,0,8192,32736,65534,131071,262143,524287] [] mixed (sp 0 z z (sp 1 z z (sp 2 z z (sF 3 z z fI (sL 4 z z (·.bc0 z) (sF 5 z z fI (sL 6 z z (·.bc4 z) (sF 7 z z fI (sL 8 z z (·.bc5 z) (sF 9 z z fI (sL 10 z z (·.bc5 z) (sF 11 z z fI (sL 12 z z (·.bc4 z) (wsr (Pt o8 2) 13 rfl rfl rfl krA (fun w b=>xF z fI z) (wsr (c4) 14 rfl rfl rfl krA (fun w b=>xL z (b.bc4 rfl)) (wsr (.agg #[F6 G.At,U6 a2.ae,U6 a2.Index,.bool G.Del,c4]) 15 rfl rfl rfl krA (fun w b=>by obtain ⟨_,_,hv_,_⟩:=(ak d8); rw [hv_]; kernel_rfl) (e1 16 z z fun w b=>?_)))))))))))))))))
 refine bk c fun q4 q5 c=>wec call72 [q1,.agg #[F6 G.At,U6 a2.ae,U6 a2.Index,.bool G.Del,c4]] z z (kdI (Bz (a1:=({G with ae:=a2.ae,Index:=a2.Index}:aP)) q2 d8 b.to0 q5) fun q6 E8 b=>wn [0] b (pz aT) (sp 17 z z (sF 18 z z fI (e1 19 z z fun w b=>?_))))
 replace b:=b.ah
 refine b1e q6 b z (oS b.sv1) sI fun E9 b=>w0n b (bt ?_)
 refine fun w b=>bJ (tn (wrl (mi z (mi z (mi z (nt ?_))))))
 replace b:=b.ah
 obtain ⟨G0,c5,q7,b⟩:=b.cO
 replace e0:=e0.mono (ro_le c5)
 replace e2:=e2.mono (ro_le c5)
 replace e3:=e3.mono (ro_le c5)
 replace b6:=b6.trans c5
 cases c
 exact ⟨_,nls,_,_,_,c3,fy z,b6,(aC (Pt q 0) (({F with V:=q4}:aq)) b.aA.aA.aA.aA ⟨z,q7,e0,e2,e3⟩).aA.aA.aD.eu⟩
}
 refine fun o1 c=>bH (aQ (aQ ?_))
 replace c:=bz c c3
 refine cZ (tn ?_)
 obtain rfl:=sj c
 exact ⟨_,F,d4,fy z,D,b.aD.aD.eu⟩
}
 refine fun g c=>go g (go g (go g (go g (go g (mb (aL g z z) (nt (cJ z (bH (aQ (aQ ?_))))))))))
 replace c:=bz c c3
 refine cZ (tn ?_)
 obtain rfl:=sj c
 exact ⟨_,F,d4,fy z,D,b.aD.aD.eu⟩
}
 refine fun s c=>go s (go s (go s (mb (aL s z z) (mb z (gz (gz (gz (gz (gz (mb (aL z z z) (nt (cJ z (bH (aQ (aQ ?_)))))))))))))))
 replace c:=bz c c3
 refine cZ (tn ?_)
 obtain rfl:=sj c
 exact ⟨_,F,d4,fy z,D,b.aD.aD.eu⟩
}
 rintro _ G1 ⟨b4,d5,c,⟨G2,rfl⟩,q8,b⟩
 dsimp only [pq] at c
 replace d:=d.trans q8
 refine ww (mF z fI (mz (xN (cs:=[U6 a2.ID.ab,U6 a2.ID.Seq]) z (b.fm 1 z)) (mk (.agg #[U1 3,U6 a2.ID.ab,U6 a2.ID.Seq,Zi,Zu,Zu,Zs,Zs]) ?_)))
 replace b:=b.ah
 refine bxk b z sI (oJ 8 z oN) fun G3 b=>nt (ar (eo (bh ?_)))
 have q9:Ro aK b4 (.slice none 0 0) []:=dc
 have s0:Ro (eC aH) b4 (.slice none 0 0) []:=dc
 cases c
 exact prI z (rN z (b.fm 0 tz)) ⟨_,Zs,Zs,z,d,q9,s0,b.aD.bF⟩
}
 refine fun l4 c=>ww (mb z (mb z (nt (bw c z ?_ ?_))))
 {
 refine fun s1 c=>ww (mv (p0) z (mi z (mz (xN z (b.fO 0 tz)) ?_)))
 replace b:=b.aD
 obtain ⟨G4,s2,c⟩:=bn c
 refine wc call73 [p0,U6 a1,.agg #[U1 a2.Kind,U6 a2.ID.ab,U6 a2.ID.Seq,U6 a2.ae,U6 a2.Index,I6 a2.E,U6 a2.br.ID.ab,U6 a2.br.ID.Seq,U6 a2.br.ae,h,i,j,k,t,I6 a2.R.E,U6 a2.R.ae,U6 a2.R.Index,u,x,U6 a2.bY,y,U6 a2.ap.ID,I6 a2.ap.dn,I6 a2.ap.To,F6 a2.ap.Lo,F6 a2.ap.Hi,U6 a2.ap.Authority,I6 a2.ap.cx,.bool a2.On]] z z z ((vI J K L M l f0 f1 f2 b.to1 s2).mono ?_)
 rintro _ G5 ⟨G6,s3,s4,rfl,s5,h8,h9,b⟩
 refine ⟨_,z,?_⟩
 replace b:=b.of1
 replace d:=d.trans s5
 replace b:=b.ah
 refine bxk b z sI (oJ 6 z (oC (oS (ak h8)) (oC (oS (ak h9)) oN))) fun G7 b=>nt (ar (eo (bh ?_)))
 cases c
 exact prI z (rN z (b.fm 0 tz)) ⟨_,s3,s4,z,d,h8,h9,b.ah.bF⟩
}
 refine fun s1 c=>ww (mb z (mb z (nt (bw c z ?_ ?_))))
 {
 refine fun s6 c=>wrl (mv (p0) z (mF z fI (mz (xN (cs:=[U6 a2.ID.ab,U6 a2.ID.Seq]) z (b.fO 1 z)) ?_)))
 replace b:=b.aD
 obtain ⟨G8,s7,c⟩:=bn c
 refine wc call74 [p0,.agg #[U6 a2.ID.ab,U6 a2.ID.Seq]] z z z (kcI (rC b.to1 s7) fun G9 b=>dv (bJ (tn (ww (mk (.agg #[Zb,Zu,Zu,Zi,Zu,Zu,Zs,Zs]) ?_)))))
 replace b:=b.ah
 refine bxk b z sI (oJ 8 z oN) fun H0 b=>nt (ar ?_)
 have s8:Ro aK I (.slice none 0 0) []:=dc
 have s9:Ro (eC aH) I (.slice none 0 0) []:=dc
 cases c
 exact prI z (rN z (b.fm 0 tz)) ⟨_,Zs,Zs,z,d,s8,s9,b.ah.bF⟩
}
 refine fun s6 c=>ww (mb z (mb z (nt (bw c z ?_ ?_))))
 {
 refine fun t0 c=>aj ?_
 obtain ⟨i0,H1,H2,H3,t1,H4,H5,H6,⟨rfl,T,U,W,t2⟩,t3⟩:=bS b.aD
 have b:=t3
 refine rg b 19 [0,0,2,6,14,0,32,96,0,256,768,1792,4094,8190,16382,16382,32767,98303,229375] [] mixed (sp 0 z z (sp 1 z z (sp 2 z z (sF 3 z z fI (sL 4 z z (·.bc0 z) (sF 5 z z fI (sF 6 z z fI (sL 7 z z (·.bc5 z) (sp 8 z z (sp 9 z z (sF 10 z z fI (sL 11 z z (·.bc0 z) (e1 12 z z fun w b=>bk c fun e4 t4 c=>wec call75 [t1,U6 a2.ap.ID,U6 a0.ae] z z (kdI (zl (t2.mono cS) b.to0 t4) fun e5 H7 b=>?_))))))))))))))
 refine wn [0] b (pz aT) (sz (.tuple #[e5,.bool e4.2]) 13 z z (sz (e5) 14 z z (sb 15 z z (sp 16 z z (sF 17 z z fI (e1 18 z z fun w b=>?_))))))
 replace b:=b.ah
 refine b1e e5 b z (oS b.sv1) sI fun H8 b=>wn [15] b (pz aT) (bt ?_)
 refine fun w b=>tn (ww (mF z fI (mL z (b.bc6 z) (nt (bw c z ?_ ?_)))))
 {
 refine fun t5 c=>rg b 17 [0,0,2,6,14,0,32,0,128,384,896,2016,4064,8190,16383,32767,65535] [] mixed (sp 0 z z (sp 1 z z (sp 2 z z (sF 3 z z fI (sL 4 z z (·.bc0 z) (sF 5 z z fI (sh _ 6 z (fun w b=>xN (cs:=[U6 a2.ap.ID,I6 a2.ap.dn,I6 a2.ap.To,F6 a2.ap.Lo,F6 a2.ap.Hi,U6 a2.ap.Authority,I6 a2.ap.cx]) z (b.Ji 21 z)) (sp 7 z z (sp 8 z z (sF 9 z z fI (sL 10 z z (·.bc0 z) (sk (.agg #[U6 a2.ap.ID,I6 a2.ap.dn,I6 a2.ap.To,F6 a2.ap.Lo,F6 a2.ap.Hi,U6 a2.ap.Authority,I6 a2.ap.cx,U6 a0.ae,Zu]) 11 z (e1 12 z z fun w b=>?_)))))))))))))
 obtain ⟨t6,t7,t8,t9,b⟩:=b.lits (E:=fi) (xs:=[({R:=a2.ap,dn:=a0.ae,To:=0}:dz)]) [[U6 a2.ap.ID,I6 a2.ap.dn,I6 a2.ap.To,F6 a2.ap.Lo,F6 a2.ap.Hi,U6 a2.ap.Authority,I6 a2.ap.cx,U6 a0.ae,Zu]] 144 1 z (bT.cons z bT.nil)
 refine cj (v:=(.slice (some ⟨t6,0,none⟩) 1 1)) (w':=t7) z (dH krA t8 t9) (wn [4,3,2,1,0] b (pL z z (·.bc1 z) (pF z z fI (pz (pz (pz aT))))) (e1 13 z z fun w b=>?_))
 obtain ⟨u0,c⟩:=cF c
 replace b:=b.aD
 obtain ⟨i1,u1,u2,b⟩:=bO Eg underlying127 b b.iL (cP u0 z) 127
 refine cj (v:=i1) (w':=u1) z (ck z z u2) (wn [0] b (pz aT) (sp 14 z z (sF 15 z z fI (e1 16 z z fun w b=>?_))))
 replace b:=b.aD
 refine b1e i1 b z (oS b.sv1) sI fun H9 b=>w0n b (bt ?_)
 refine fun w b=>bJ (tn (ww (mk (.agg #[Zb,Zu,Zu,Zi,Zu,Zu,Zs,Zs]) ?_)))
 replace b:=b.de
 refine bxk b z sI (oJ 8 z oN) fun J0 b=>nt (ar ?_)
 have e6:Ro aK I (.slice none 0 0) []:=dc
 have e7:Ro (eC aH) I (.slice none 0 0) []:=dc
 replace b:=b.aD
 obtain ⟨J1,X,u3,b⟩:=b.cO
 replace T:=T.mono (ro_le X)
 replace U:=U.mono (ro_le X)
 replace W:=W.mono (ro_le X)
 replace e6:=e6.mono (ro_le X)
 replace e7:=e7.mono (ro_le X)
 replace d:=d.trans X
 replace b:=aC (Pt i0 0) (({a0 with B:=(e4.1++([({R:=a2.ap,dn:=a0.ae,To:=0}:dz)]))}:aq)) b.bq.bq.bq.bj ⟨z,T,U,W,u3⟩
 cases c
 exact prI z (rN z (b.fO 0 tz)) ⟨_,Zs,Zs,z,d,e6,e7,b.bF⟩
}
 refine fun t5 c=>al (bJ (tn (ww (mk (.agg #[Zb,Zu,Zu,Zi,Zu,Zu,Zs,Zs]) ?_))))
 replace b:=b.bq
 refine bxk b z sI (oJ 8 z oN) fun J2 b=>nt (ar ?_)
 have e8:Ro aK I (.slice none 0 0) []:=dc
 have e9:Ro (eC aH) I (.slice none 0 0) []:=dc
 replace b:=b.aD
 obtain ⟨J3,Y,u4,b⟩:=b.cO
 replace T:=T.mono (ro_le Y)
 replace U:=U.mono (ro_le Y)
 replace W:=W.mono (ro_le Y)
 replace e8:=e8.mono (ro_le Y)
 replace e9:=e9.mono (ro_le Y)
 replace d:=d.trans Y
 replace b:=aC (Pt i0 0) (({a0 with B:=e4.1}:aq)) b.bj.bj.bj.bj ⟨z,T,U,W,u4⟩
 cases c
 exact prI z (rN z (b.fO 0 tz)) ⟨_,Zs,Zs,z,d,e8,e9,b.bF⟩
}
 refine fun t0 c=>ww (mb z (mb z (nt (bw c z ?_ ?_))))
 {
 refine fun u5 c=>ww (mv (p0) z (mi z (mz (xN z (b.fO 0 tz)) ?_)))
 replace b:=b.aD
 obtain ⟨J4,u6,c⟩:=bn c
 refine wc call76 [p0,U6 a1,.agg #[U1 a2.Kind,U6 a2.ID.ab,U6 a2.ID.Seq,U6 a2.ae,U6 a2.Index,I6 a2.E,U6 a2.br.ID.ab,U6 a2.br.ID.Seq,U6 a2.br.ae,h,i,j,k,t,I6 a2.R.E,U6 a2.R.ae,U6 a2.R.Index,u,x,U6 a2.bY,y,U6 a2.ap.ID,I6 a2.ap.dn,I6 a2.ap.To,F6 a2.ap.Lo,F6 a2.ap.Hi,U6 a2.ap.Authority,I6 a2.ap.cx,.bool a2.On]] z z z ((wy (J.mono cS) (K.mono cS) (L.mono cS) (M.mono cS) (l.mono cS) (f0.mono cS) (f1.mono cS) (f2.mono cS) b.to1 u6).mono ?_)
 rintro _ J5 ⟨J6,u7,u9,rfl,v0,i2,i3,b⟩
 refine ⟨_,z,?_⟩
 replace b:=b.of1
 replace d:=d.trans v0
 replace b:=b.ah
 refine bxk b z sI (oJ 6 z (oC (oS (ak i2)) (oC (oS (ak i3)) oN))) fun J7 b=>nt (ar (eo (bh ?_)))
 cases c
 exact prI z (rN z (b.fm 0 tz)) ⟨_,u7,u9,z,d,i2,i3,b.ah.bF⟩
}
 refine fun u5 c=>al (bJ (tn (ww (mk (.agg #[Zb,Zu,Zu,Zi,Zu,Zu,Zs,Zs]) (bxk b z sI (oJ 8 z oN) fun J8 b=>nt (ar ?_))))))
 have v1:Ro aK I (.slice none 0 0) []:=dc
 have v2:Ro (eC aH) I (.slice none 0 0) []:=dc
 cases c
 exact prI z (rN z (b.fm 0 tz)) ⟨_,Zs,Zs,z,d,v1,v2,b.aD.bF⟩
}
theorem fE {a0:(List cC)} {f:Value} {a1:(List cC)} {g:Value} (h:Rd aK R I f a0) (i:Rd aK R I g a1) (c:St w0 w I [] R) {r:(Bool)} (b:ja a0 a1=some r) :
  Calls prog 78 #[f,g] w fun e w'=>e = .returned (.bool r)∧St w0 w' I [] R:=by {
 unfold ja at b
 refine c0 func78 z z (ww (mb z (nt (aj (ww (mv (f) z (mz (bX z uI (ay h)) (mv (g) z (mz (bX z uI (ay i)) (mb z (nt (bw b z ?_ ?_))))))))))))
 {
 intro x b
 cases b
}
 refine fun x b=>al (tn (aj (ww (mi z (nt (au ?_))))))
 obtain ⟨y,b⟩:=aS b
 refine bg (fun n a w=>∃ (j:Int),cU (gV a0 a1) n j=some r∧fz 43 [0,1,5] [f,g,I6 j] a∧St w0 w I [] R) y ⟨0,b,fy z,c⟩ ?_
 rintro L _ M ⟨j,b,⟨N,rfl⟩,c⟩
 obtain ⟨O,P,rfl,b,m⟩:=aU b
 dsimp only [gV] at b
 refine aj (ww (mi z (mv (f) z (mz (bX z uI (ay h)) (mb z (nt (bw b z ?_ ?_)))))))
 {
 refine fun A b=>al (tn (aj (au (aj (eU c mixed krA (qz f z (qz (I6 _) z ?_)))))))
 obtain ⟨k,B,b⟩:=bn b
 obtain ⟨o,p,C⟩:=aV B
 refine qh _ (fun w c=>aJ z z uI sI (ay h) o p) (qh _ (fun w c=>xG z fI z) ?_)
 obtain ⟨Q,D,q⟩:=Rd.lC h C
 obtain ⟨S,rfl,E,-⟩:=D
 refine qh _ (fun w c=>xL z ((q lr c) 0 _ z)) (qz g z (qz (I6 _) z ?_))
 obtain ⟨l,F,b⟩:=bn b
 obtain ⟨s,t,G⟩:=aV F
 refine qh _ (fun w c=>aJ z z uI sI (ay i) s t) (qh _ (fun w c=>xG z fI z) ?_)
 obtain ⟨T,H,u⟩:=Rd.lC i G
 obtain ⟨U,rfl,J,-⟩:=H
 refine qh _ (fun w c=>xL z ((u lr c) 0 _ z)) (yy (v:=.bool (!(k.Has==l.Has))) z z (fun w c=>by kernel_rfl) (qz (.bool _) z (bs b ?_ ?_)))
 {
 intro d b
 cases b
}
 refine fun d b=>qgz f d z (qgz (I6 _) d z (qg _ d (fun w c=>aJ z z uI sI (ay h) o p) (qg _ d (fun w c=>xG z fI z) (qg _ d (fun w c=>xL z ((q lr c) 1 _ z)) (qg (.string (ly k.Val)) d (fun w c=>uz uI uI uI z (Src.vf c E pe)) (qgz g d z (qgz (I6 _) d z (qg _ d (fun w c=>aJ z z uI sI (ay i) s t) (qg _ d (fun w c=>xG z fI z) (qg _ d (fun w c=>xL z ((u lr c) 1 _ z)) (qg (.string (ly l.Val)) d (fun w c=>uz uI uI uI z (Src.vf c J pe)) (yy (v:=.bool (!(sEq (ly k.Val) (ly l.Val)))) ((av z z z (cvb d)).trans z) z (fun w c=>by kernel_rfl) (qh (.bool _) (fun w c=>aL d z z) (hK ?_))))))))))))))
 refine fun w c=>tn (bw b z ?_ ?_)
 {
 intro K b
 cases b
}
 refine fun K b=>al (bJ (tn (wrl (mi z (mi z (mi z (nt ?_)))))))
 cases b
 exact ⟨_,nls,_,m,fy z,c.cT⟩
}
 refine fun A b=>bH (aQ (aQ ?_))
 replace b:=bz b m
 refine cZ (tn (ww (mb z (nt (ar ?_)))))
 cases b
 exact pB z z ⟨z,c.cT⟩
}
theorem xv {a0:(List bP)} {f:Value} {a1:(List bP)} {g:Value} (h:Rd aH R I f a0) (i:Rd aH R I g a1) (c:St w0 w I [] R) {r:(Bool)} (b:jm a0 a1=some r) :
  Calls prog 79 #[f,g] w fun e w'=>e = .returned (.bool r)∧St w0 w' I [] R:=by {
 unfold jm at b
 refine c0 func79 z z (ww (mb z (nt (aj (ww (mv (f) z (mz (bX z uI (ay h)) (mv (g) z (mz (bX z uI (ay i)) (mb z (nt (bw b z ?_ ?_))))))))))))
 {
 intro v b
 cases b
}
 refine fun v b=>al (tn (aj (ww (mi z (nt (au ?_))))))
 obtain ⟨x,b⟩:=aS b
 refine bg (fun n a w=>∃ (j:Int),cU (ie a0 a1) n j=some r∧fz 44 [0,1,5] [f,g,I6 j] a∧St w0 w I [] R) x ⟨0,b,fy z,c⟩ ?_
 rintro P _ Q ⟨j,b,⟨S,rfl⟩,c⟩
 obtain ⟨T,U,rfl,b,m⟩:=aU b
 dsimp only [ie] at b
 refine aj (ww (mi z (mv (f) z (mz (bX z uI (ay h)) (mb z (nt (bw b z ?_ ?_)))))))
 {
 refine fun y b=>al (tn (aj (au (aj (rg c 27 [0,0,3,7,15,0,0,96,224,480,1023,2047,4095,8191,8191,32767,65535,131071,262143,8191,8191,1581055,3678207,7872511,16261119,33554431,67108863] [] mixed (sz (f) 0 z z (si 1 z z ?_)))))))
 obtain ⟨k,A,b⟩:=bn b
 obtain ⟨o,p,q⟩:=aV A
 refine sh _ 2 z (fun w c=>aJ z z uI sI (ay h) o p) (sh _ 3 z (fun w c=>xG z fI z) ?_)
 obtain ⟨V,B,C⟩:=Rd.lC h q
 obtain ⟨W,rfl,X,-⟩:=B
 refine sL 4 z z (fun c=>(C lr c) 0 _ z) (sz (g) 5 z z (si 6 z z ?_))
 obtain ⟨l,D,b⟩:=bn b
 obtain ⟨s,t,u⟩:=aV D
 refine sh _ 7 z (fun w c=>aJ z z uI sI (ay i) s t) (sh _ 8 z (fun w c=>xG z fI z) ?_)
 obtain ⟨Y,E,F⟩:=Rd.lC i u
 obtain ⟨Z,rfl,b0,-⟩:=E
 refine sL 9 z z (fun c=>(F lr c) 0 _ z) (e1 10 z z fun w c=>bk b fun b1 G b=>wec call20 [F6 k.At,F6 l.At] z z (kcO (fL c.to0 G) fun b2 c=>w0n c (sb 11 z z (sb 12 z z (bs b ?_ ?_)))))
 {
 intro d b
 cases b
}
 refine fun d b=>sgz f 13 z d z (sgz (I6 _) 14 z d z (sg _ 15 z d (fun w c=>aJ z z uI sI (ay h) o p) (sg _ 16 z d (fun w c=>xG z fI z) ?_)))
 obtain ⟨b3,H,J⟩:=Rd.lC h q
 obtain ⟨b4,rfl,K,-⟩:=H
 refine sg _ 17 z d (fun w c=>xL z ((J lr c) 1 _ z)) (sg (.string (ly k.Val)) 18 z d (fun w c=>uz uI uI uI z (Src.vf c K pe)) (sgz g 19 z d z (sgz (I6 _) 20 z d z (sg _ 21 z d (fun w c=>aJ z z uI sI (ay i) s t) (sg _ 22 z d (fun w c=>xG z fI z) ?_)))))
 obtain ⟨b5,L,M⟩:=Rd.lC i u
 obtain ⟨b6,rfl,N,-⟩:=L
 refine sg _ 23 z d (fun w c=>xL z ((M lr c) 1 _ z)) (sg (.string (ly l.Val)) 24 z d (fun w c=>uz uI uI uI z (Src.vf c N pe)) (sgk (.bool (!(sEq (ly k.Val) (ly l.Val)))) 25 z d (sh (.bool _) 26 z (fun w c=>aL d z z) (bt ?_))))
 refine fun w c=>tn (bw b z ?_ ?_)
 {
 intro O b
 cases b
}
 refine fun O b=>al (bJ (tn (wrl (mi z (mi z (mi z (nt ?_)))))))
 cases b
 exact ⟨_,nls,_,m,fy z,c.cT⟩
}
 refine fun y b=>bH (aQ (aQ ?_))
 replace b:=bz b m
 refine cZ (tn (ww (mb z (nt (ar ?_)))))
 cases b
 exact pB z z ⟨z,c.cT⟩
}
theorem tl {a0:bB} {i k:Value} {a1:bB} {j l:Value} (u:Rd aK R I i a0.dT) (m:Rd (eC aH) R I k a0.aX) (v:Rd aK R I j a1.dT) (o:Rd (eC aH) R I l a1.aX) (c:St w0 w I [] R) {r:(Bool)} (b:gJ a0 a1=some r) :
  Calls prog 32 #[.agg #[I6 a0.E,U6 a0.ae,U6 a0.Index,i,k],.agg #[I6 a1.E,U6 a1.ae,U6 a1.Index,j,l]] w fun e w'=>e = .returned (.bool r)∧St w0 w' I [] R:=by {
 unfold gJ at b
 refine c0 func32 z z (ww ?_)
 obtain ⟨q,b1,x,y,c⟩:=c.box [I6 a0.E,U6 a0.ae,U6 a0.Index,i,k] 33
 refine wa x y ?_
 obtain ⟨s,b2,A,B,c⟩:=c.box [I6 a1.E,U6 a1.ae,U6 a1.Index,j,l] 33
 refine wa A B (mb z (nt (aj (ww (mF z fI (mL z (c.bc1 z) (mF z fI (mL z (c.bc0 z) (mb z (mb z (bs b ?_ ?_)))))))))))
 {
 intro g b
 cases b
}
 refine fun g b=>gg g (xF z fI z) (gg g (xL z (c.bc1 z)) (gg g (xF z fI z) (gg g (xL z (c.bc0 z)) (gb g z (mb (aL g z z) (mb z (bs b ?_ ?_)))))))
 {
 intro h b
 cases b
}
 refine fun h b=>gg h (xF z fI z) (gg h (xL z (c.bc1 z)) (gg h (xF z fI z) (gg h (xL z (c.bc0 z)) (gb h z (mb (aL h z z) (mb z (bs b ?_ ?_)))))))
 {
 intro f b
 cases b
}
 refine fun f b=>gg f (xF z fI z) (gg f (xL z (c.bc1 z)) (gg f (xF z fI z) (gg f (xL z (c.bc0 z)) (bk b fun b3 C b=>dh ((av z z z (cvb f)).trans z) z (gO call78 z (vs:=[i,j]) z) (kcO (fE (u.mono (cW _)) (v.mono (cW _)) c.to0 C) fun b4 c=>gb f z (mb (aL f z z) (mb z (bs b ?_ ?_))))))))
 {
 intro d b
 cases b
}
 refine fun d b=>gg d (xF z fI z) (gg d (xL z (c.bc1 z)) (gg d (bX z uI (ay m)) (gg d (xF z fI z) (gg d (xL z (c.bc0 z)) (gg d (bX z uI (ay o)) (gb d z (mb (aL d z z) (nt (bw b z ?_ ?_)))))))))
 {
 intro D b
 cases b
}
 refine fun D b=>al (tn (aj (ww (mi z (nt (au ?_))))))
 obtain ⟨F,b⟩:=aS b
 refine bg (fun n a w=>∃ (p:Int),cU (ir a0 a1) n p=some r∧fz 61 [2,3,5] [Pt q 0,Pt s 0,I6 p] a∧St w0 w I [cells s [I6 a1.E,U6 a1.ae,U6 a1.Index,j,l],cells q [I6 a0.E,U6 a0.ae,U6 a0.Index,i,k]] R) F ⟨0,b,fy z,c⟩ ?_
 rintro b5 _ b6 ⟨p,b,⟨b7,rfl⟩,c⟩
 obtain ⟨b8,b9,rfl,b,t⟩:=aU b
 dsimp only [ir] at b
 refine aj (ww (mi z (mF z fI (mL z (c.bc1 z) (mz (bX z uI (ay m)) (mb z (nt (bw b z ?_ ?_))))))))
 {
 refine fun G b=>al (tn (aj (au (aj (rg c 12 [0,1,0,7,15,0,32,0,224,480,1023,2047] [] mixed (sF 0 z z fI (sL 1 z z (·.bc1 z) (si 2 z z ?_))))))))
 obtain ⟨c1,H,b⟩:=bn b
 obtain ⟨J,K,L⟩:=aV H
 refine sh _ 3 z (fun w c=>aJ z z uI sI (ay m) J K) ?_
 obtain ⟨c2,M,N⟩:=Rd.lC m L
 obtain ⟨O,rfl,P,-⟩:=M
 refine sL 4 z z (fun c=>(N lr c) 0 _ z) (sF 5 z z fI (sL 6 z z (·.bc0 z) (si 7 z z ?_)))
 obtain ⟨c3,Q,b⟩:=bn b
 obtain ⟨S,T,U⟩:=aV Q
 refine sh _ 8 z (fun w c=>aJ z z uI sI (ay o) S T) ?_
 obtain ⟨c4,V,W⟩:=Rd.lC o U
 obtain ⟨X,rfl,Y,-⟩:=V
 refine sL 9 z z (fun c=>(W lr c) 0 _ z) (e1 10 z z fun w c=>bk b fun c5 Z b=>wec call79 [O,X] z z (kcO (xv (P.mono (cW _)) (Y.mono (cW _)) c.to0 Z) fun c6 c=>w0n c (sb 11 z z (bt ?_))))
 refine fun w c=>tn (bw b z ?_ ?_)
 {
 intro b0 b
 cases b
}
 refine fun b0 b=>al (bJ (tn (wrl (mi z (mi z (mi z (nt ?_)))))))
 cases b
 exact ⟨_,nls,_,t,fy z,c.ah.ah.cv⟩
}
 refine fun G b=>bH (aQ (aQ ?_))
 replace b:=bz b t
 refine cZ (tn (ww (mb z (nt (ar ?_)))))
 cases b
 exact pB z z ⟨z,c.cT⟩
}
theorem wD {a0:bU} {f g:Value} {a1:bU} {h i:Value} (j:Rd aK R I f a0.R.dT) (k:Rd (eC aH) R I g a0.R.aX) (l:Rd aK R I h a1.R.dT) (m:Rd (eC aH) R I i a1.R.aX) (a:St w0 w I [] R) {r:(Bool)} (b:mX a0 a1=some r) :
  Calls prog 39 #[.agg #[U1 a0.Kind,U6 a0.ID.ab,U6 a0.ID.Seq,I6 a0.R.E,U6 a0.R.ae,U6 a0.R.Index,f,g],.agg #[U1 a1.Kind,U6 a1.ID.ab,U6 a1.ID.Seq,I6 a1.R.E,U6 a1.R.ae,U6 a1.R.Index,h,i]] w fun e w'=>e = .returned (.bool r)∧St w0 w' I [] R:=by {
 unfold mX at b
 refine c0 func39 z z (ww ?_)
 obtain ⟨t,u,n,o,a⟩:=a.box [U1 a0.Kind,U6 a0.ID.ab,U6 a0.ID.Seq,I6 a0.R.E,U6 a0.R.ae,U6 a0.R.Index,f,g] 35
 refine wa n o ?_
 obtain ⟨v,x,p,q,a⟩:=a.box [U1 a1.Kind,U6 a1.ID.ab,U6 a1.ID.Seq,I6 a1.R.E,U6 a1.R.ae,U6 a1.R.Index,h,i] 35
 refine wa p q (mb z (nt (ww (mF z fI (mL z (a.bc1 z) (mF z fI (mL z (a.bc0 z) (mb z (mb z (bs b ?_ ?_))))))))))
 {
 refine fun c b=>gg c (xF z fI z) (gg c (xN (cs:=[U6 a0.ID.ab,U6 a0.ID.Seq]) z (a.fO 1 z)) (gg c (xF z fI z) (gg c (xN (cs:=[U6 a1.ID.ab,U6 a1.ID.Seq]) z (a.fm 1 z)) (gb c (yG z z krA uI krA krA krA uI uI (fun _ _ _=>by kernel_rfl) (fun _ _ _=>by kernel_rfl)) (mb (bi c z z) (mb z (bs b ?_ ?_)))))))
 {
 refine fun d b=>gg d (xF z fI z) (gg d (xN (cs:=[I6 a0.R.E,U6 a0.R.ae,U6 a0.R.Index,f,g]) z (a.fO 3 z)) (gg d (xF z fI z) (gg d (xN (cs:=[I6 a1.R.E,U6 a1.R.ae,U6 a1.R.Index,h,i]) z (a.fm 3 z)) (bk b fun y s b=>dh ((av z z z (cvb d)).trans z) z (gO call32 z (vs:=[.agg #[I6 a0.R.E,U6 a0.R.ae,U6 a0.R.Index,f,g],.agg #[I6 a1.R.E,U6 a1.R.ae,U6 a1.R.Index,h,i]]) z) (kcO (tl (j.mono (cW _)) (k.mono (cW _)) (l.mono (cW _)) (m.mono (cW _)) a.to0 s) fun A a=>mb (bi d z z) (mb z (nt (ar ?_))))))))
 obtain rfl:=sj b
 exact pB z z ⟨z,a.cT⟩
}
 intro d b
 cases b
}
 intro c b
 cases b
}
theorem nJ {a0:(List bI)} {c:Value} (h:RdO bc R I c a0) (a:St w0 w I [] R) {r:(List bI)} (d:eH a0=some r) :
  Calls prog 62 #[c] w fun e w'=>∃ (i:Value),e = .returned (i)∧St w0 w' I [bp bc i r] R:=by {
 unfold eH at d
 obtain ⟨hg,d⟩:=cF d
 cases d
 have hsv:=yq h
 refine c0 func62 z z (ww (mv ((.slice none 0 0)) z (nt (aj (ww (mv (c) z (mb (yB z hsv z uI) (nt (kp (isNil c) (fun f=>?_) (fun f=>?_))))))))))
 {
 refine eG (cvb f) (ww (mv ((.slice none 0 0)) z (nt (ar (bh (dI [Zs] z (rc z bl) ?_))))))
 obtain rfl:=List.eq_nil_of_length_eq_zero (uW hsv f)
 exact ⟨_,z,(a.ba bc).bF⟩
}
 refine cJ (cvb f) (al (tn (ww ?_)))
 obtain ⟨b,j,ew,eb,a⟩:=a.lits (E:=bc) (xs:=[]) [] 89 0 z bT.nil
 refine cK (v:=(.slice (some ⟨b,0,none⟩) 0 0)) (w':=j) z z (dH krA ew eb) (mv (c) z ?_)
 obtain ⟨g,k,hr,a⟩:=bO vC underlying65 a (Src.Jh a h) (cP hg z) 65
 refine cK (v:=g) (w':=k) z z (ck z z hr) (mv (g) z (nt (ar (dI [g] z (rc z bl) ?_))))
 rw [List.nil_append] at a
 exact ⟨_,z,a.bF⟩
}
theorem xM {a0:(Option ai)} {p0:Value} (a:St w0 w I [cX aM p0 a0] R) {r:((List bI))} (b:nT a0=some r) :
  Calls prog 23 #[p0] w fun e w'=>∃ (d:Value),e = .returned (d)∧St w0 w' I [bp bc d r,cX aM p0 a0] R:=by {
 rcases a0 with _ | g
 {
 dsimp only [nT] at b
 cases b
}
 replace a:=bQ a
 dsimp only [nT] at b
 refine c0 func23 z z (ww (mv ((.slice none 0 0)) z (nt (aj (ww (mv (p0) z ?_))))))
 obtain ⟨h,l,m,n,o,i,p,q,rfl,j⟩:=bC a
 have a:=j
 refine mk (.bool false) (nt (cJ z (al (tn (ww (mp z (mp z (mF z fI (mL z (a.bc0 z) ?_)))))))))
 replace a:=a.bq
 obtain ⟨s,f,a⟩:=a.cz
 obtain ⟨t,k,b⟩:=bn b
 refine wc call62 [i] z z z (kdI (nJ (a.LY 0 z f) a.to0 k) fun c u a=>?_)
 replace a:=a.ah.bo f
 refine mv (c) z (nt (ar ?_))
 cases b
 exact dI [c] z (rc z bl) ⟨c,z,(aR (aF (Pt h 0) g a.bM.bM.aD.bM.bM.bM.bM.bM z)).ah.cv⟩
}
theorem pd {a0:(List bK)} {g:Value} {a1:(List bK)} {h:Value} (i:Rd cG R I g a0) (j:Rd cG R I h a1) (b:St w0 w I [] R) {r:(Bool)} (c:iC a0 a1=some r) :
  Calls prog 18 #[g,h] w fun e w'=>e = .returned (.bool r)∧St w0 w' I [] R:=by {
 unfold iC at c
 refine c0 func18 z z (ww (mb z (nt (aj (ww (mv (g) z (mz (bX z uI (ay i)) (mv (h) z (mz (bX z uI (ay j)) (mb z (nt (bw c z ?_ ?_))))))))))))
 {
 intro A c
 cases c
}
 refine fun A c=>al (tn (aj (ww (mi z (nt (au ?_))))))
 obtain ⟨B,c⟩:=aS c
 refine bg (fun n a w=>∃ (m:Int),cU (gS a0 a1) n m=some r∧fz 57 [0,1,5] [g,h,I6 m] a∧St w0 w I [] R) B ⟨0,c,fy z,b⟩ ?_
 rintro Q _ S ⟨m,c,⟨T,rfl⟩,b⟩
 obtain ⟨U,V,rfl,c,t⟩:=aU c
 dsimp only [gS] at c
 refine aj (ww (mi z (mv (g) z (mz (bX z uI (ay i)) (mb z (nt (bw c z ?_ ?_)))))))
 {
 refine fun C c=>al (tn (aj (au (aj (rg b 40 [0,0,3,7,15,0,0,96,224,480,1023,2047,4095,8191,8191,32767,65535,131071,8191,8191,794623,1843199,3940351,8388607,16777215,33554431,67108863,67108863,268435455,536870911,1073741823,2147483647,67108863,67108863,12952010751,30131879935,64491618303,133211095039,274877906943,549755813887] [] mixed (sz (g) 0 z z (si 1 z z ?_)))))))
 obtain ⟨k,D,c⟩:=bn c
 obtain ⟨o,p,u⟩:=aV D
 refine sh _ 2 z (fun w b=>aJ z z uI sI (ay i) o p) (sh _ 3 z (fun w b=>xG z fI z) ?_)
 obtain ⟨W,E,F⟩:=Rd.lC i u
 obtain ⟨X,rfl,Y,-⟩:=E
 refine sL 4 z z (fun b=>(F lr b) 0 _ z) (sz (h) 5 z z (si 6 z z ?_))
 obtain ⟨l,G,c⟩:=bn c
 obtain ⟨q,s,v⟩:=aV G
 refine sh _ 7 z (fun w b=>aJ z z uI sI (ay j) q s) (sh _ 8 z (fun w b=>xG z fI z) ?_)
 obtain ⟨Z,H,J⟩:=Rd.lC j v
 obtain ⟨b0,rfl,b1,-⟩:=H
 refine sL 9 z z (fun b=>(J lr b) 0 _ z) (e1 10 z z fun w b=>bk c fun b2 K c=>wec call20 [F6 k.At,F6 l.At] z z (kcO (fL b.to0 K) fun b3 b=>w0n b (sb 11 z z (sb 12 z z (bs c ?_ ?_)))))
 {
 intro f c
 cases c
}
 refine fun f c=>sgz g 13 z f z (sgz (I6 _) 14 z f z (sg _ 15 z f (fun w b=>aJ z z uI sI (ay i) o p) (sg _ 16 z f (fun w b=>xG z fI z) ?_)))
 obtain ⟨b4,L,x⟩:=Rd.lC i u
 obtain ⟨b5,rfl,M,-⟩:=L
 refine sg _ 17 z f (fun w b=>xL z ((x lr b) 1 _ z)) (sgz h 18 z f z (sgz (I6 _) 19 z f z (sg _ 20 z f (fun w b=>aJ z z uI sI (ay j) q s) (sg _ 21 z f (fun w b=>xG z fI z) ?_))))
 obtain ⟨b6,N,y⟩:=Rd.lC j v
 obtain ⟨b7,rfl,O,-⟩:=N
 refine sg _ 22 z f (fun w b=>xL z ((y lr b) 1 _ z)) (sgk (.bool (!(k.Del==l.Del))) 23 z f (sh (.bool _) 24 z (fun w b=>aL f z z) (sb 25 z z (bs c ?_ ?_))))
 {
 intro d c
 cases c
}
 refine fun d c=>sgz g 26 z d z (sgz (I6 _) 27 z d z (sg _ 28 z d (fun w b=>aJ z z uI sI (ay i) o p) (sg _ 29 z d (fun w b=>xG z fI z) (sg _ 30 z d (fun w b=>xL z ((x lr b) 2 _ z)) (sg (.string (ly k.Val)) 31 z d (fun w b=>uz uI uI uI z (Src.vf b M pe)) (sgz h 32 z d z (sgz (I6 _) 33 z d z (sg _ 34 z d (fun w b=>aJ z z uI sI (ay j) q s) (sg _ 35 z d (fun w b=>xG z fI z) (sg _ 36 z d (fun w b=>xL z ((y lr b) 2 _ z)) (sg (.string (ly l.Val)) 37 z d (fun w b=>uz uI uI uI z (Src.vf b O pe)) (sgk (.bool (!(sEq (ly k.Val) (ly l.Val)))) 38 z d (sh (.bool _) 39 z (fun w b=>aL d z z) (bt ?_))))))))))))))
 refine fun w b=>tn (bw c z ?_ ?_)
 {
 intro P c
 cases c
}
 refine fun P c=>al (bJ (tn (wrl (mi z (mi z (mi z (nt ?_)))))))
 cases c
 exact ⟨_,nls,_,t,fy z,b.cT⟩
}
 refine fun C c=>bH (aQ (aQ ?_))
 replace c:=bz c t
 refine cZ (tn (ww (mb z (nt (ar ?_)))))
 cases c
 exact pB z z ⟨z,b.cT⟩
}
theorem uN {a0:(List bI)} {q:Value} {a1:(List bI)} {s:Value} (C:Rd bc R I q a0) (D:Rd bc R I s a1) (c:St w0 w I [] R) {r:(Bool)} (b:kI a0 a1=some r) :
  Calls prog 86 #[q,s] w fun e w'=>e = .returned (.bool r)∧St w0 w' I [] R:=by {
 unfold kI at b
 refine c0 func86 z z (ww (mb z (nt (aj (ww (mv (q) z (mz (bX z uI (ay C)) (mv (s) z (mz (bX z uI (ay D)) (mb z (nt (bw b z ?_ ?_))))))))))))
 {
 intro X b
 cases b
}
 refine fun X b=>al (tn (aj (ww (mi z (nt (au ?_))))))
 obtain ⟨Y,b⟩:=aS b
 refine bg (fun n a w=>∃ (u:Int),cU (iR a0 a1) n u=some r∧fz 123 [0,1,5] [q,s,I6 u] a∧St w0 w I [] R) Y ⟨0,b,fy z,c⟩ ?_
 rintro e9 _ f0 ⟨u,b,⟨f1,rfl⟩,c⟩
 obtain ⟨f2,Z,rfl,b,K⟩:=aU b
 dsimp only [iR] at b
 refine aj (ww (mi z (mv (q) z (mz (bX z uI (ay C)) (mb z (nt (bw b z ?_ ?_)))))))
 {
 refine fun b0 b=>al (tn (aj (au (ww (mb z (nt (aj (ww (mi z (nt (au ?_)))))))))))
 obtain ⟨b1,b⟩:=aS b
 refine bg (fun n a w=>∃ (p:Bool) (x:Int),cU (gL a1 a0 u) n (p,x)=some Z∧fz 123 [0,1,5,6,7] [q,s,I6 u,.bool p,I6 x] a∧St w0 w I [] R) b1 ⟨false,0,b,fy z,c⟩ ?_
 rintro f3 _ f4 ⟨p,x,b,⟨f5,rfl⟩,c⟩
 obtain ⟨f6,b2,rfl,b,t⟩:=aU b
 dsimp only [gL] at b
 refine aj (ww (mi z (mv (s) z (mz (bX z uI (ay D)) (mb z (nt (bw b z ?_ ?_)))))))
 {
 refine fun b3 b=>al (tn (aj (au (ww (mv (q) z (mi z ?_))))))
 obtain ⟨h,b4,b⟩:=bn b
 obtain ⟨b5,b6,b7⟩:=aV b4
 refine mz (aJ z z uI sI (ay C) b5 b6) ?_
 obtain ⟨f7,b8,b9⟩:=Rd.lC C b7
 obtain ⟨L,rfl,y,-⟩:=b8
 refine mz (xN (cs:=[U6 h.ID.ab,U6 h.ID.Seq,I6 h.E,U6 h.ae,U6 h.Index,U6 h.bY,L]) z (et (o:=0) (b9 lr c) z)) ?_
 obtain ⟨M,f8,c1,c2,c⟩:=c.box [Zu,Zu,Zi,Zu,Zu,Zu,Zs] 89
 refine wa c1 c2 (bxk c z sI (oJ 6 z (oC (oS (ay y)) oN)) fun f9 c=>nt (ww (mv (s) z (mi z ?_))))
 obtain ⟨i,c3,b⟩:=bn b
 obtain ⟨c4,c5,c6⟩:=aV c3
 refine mz (aJ z z uI sI (ay D) c4 c5) ?_
 obtain ⟨g0,c7,c8⟩:=Rd.lC D c6
 obtain ⟨N,rfl,A,-⟩:=c7
 refine mz (xN (cs:=[U6 i.ID.ab,U6 i.ID.Seq,I6 i.E,U6 i.ae,U6 i.Index,U6 i.bY,N]) z (et (o:=0) (c8 lr c) z)) ?_
 obtain ⟨O,g1,c9,d0,c⟩:=c.box [Zu,Zu,Zi,Zu,Zu,Zu,Zs] 89
 refine wa c9 d0 (bxk c z sI (oJ 6 z (oC (oS (ay A)) oN)) fun g2 c=>nt (ww (mF z fI (mz (xN (cs:=[U6 h.ID.ab,U6 h.ID.Seq]) z (c.fO 0 z)) (mF z fI (mz (xN (cs:=[U6 i.ID.ab,U6 i.ID.Seq]) z (c.fm 0 z)) (mb (yG z z krA uI krA krA krA uI uI (fun _ _ _=>by kernel_rfl) (fun _ _ _=>by kernel_rfl)) (mb z (bs b ?_ ?_)))))))))
 {
 refine fun j b=>gg j (xF z fI z) (gg j (xL z (c.bc1 z)) (gg j (xF z fI z) (gg j (xL z (c.bc0 z)) (gb j z (mb (bi j z z) (mb z (bs b ?_ ?_)))))))
 {
 refine fun k b=>gg k (xF z fI z) (gg k (xL z (c.bc1 z)) (gg k (xF z fI z) (gg k (xL z (c.bc0 z)) (gb k z (mb (bi k z z) (mb z (bs b ?_ ?_)))))))
 {
 refine fun l b=>gg l (xF z fI z) (gg l (xL z (c.bc1 z)) (gg l (xF z fI z) (gg l (xL z (c.bc0 z)) (gb l z (mb (bi l z z) (mb z (bs b ?_ ?_)))))))
 {
 refine fun m b=>gg m (xF z fI z) (gg m (xL z (c.bc1 z)) (gg m (xF z fI z) (gg m (xL z (c.bc0 z)) (gb m z (mb (bi m z z) (mb z (bs b ?_ ?_)))))))
 {
 refine fun g b=>gg g (xF z fI z) (gg g (xL z (c.bc1 z)) (gg g (bX z uI (ay y)) (gg g (xF z fI z) (gg g (xL z (c.bc0 z)) (gg g (bX z uI (ay A)) (gb g z (mb (bi g z z) (nt (bw b z ?_ ?_)))))))))
 {
 refine fun d1 b=>ww (mb z (nt ?_))
 obtain ⟨d2,b,d3⟩:=bn b
 refine cR (fun a w=>∃ (F:Bool),(nL p x) F=some b2∧fz 123 [0,1,5,6,7,10] [q,s,I6 u,.bool p,I6 x,.bool F] a∧St w0 w I [] R) ?_ ?_
 {
 refine ww (mi z (nt (au ?_)))
 obtain ⟨d4,b⟩:=aS b
 refine bg (fun n a w=>∃ (G:Bool) (J:Int),cU (fG h i) n (G,J)=some d2∧fz 123 [0,1,5,6,7,8,9,10,11] [q,s,I6 u,.bool p,I6 x,Pt M 0,Pt O 0,.bool G,I6 J] a∧St w0 w I [cells O [U6 i.ID.ab,U6 i.ID.Seq,I6 i.E,U6 i.ae,U6 i.Index,U6 i.bY,N],cells M [U6 h.ID.ab,U6 h.ID.Seq,I6 h.E,U6 h.ae,U6 h.Index,U6 h.bY,L]] R) d4 ⟨true,0,b,fy z,c⟩ ?_
 rintro g3 _ g4 ⟨G,J,b,⟨g5,rfl⟩,c⟩
 obtain ⟨g6,g7,rfl,b,H⟩:=aU b
 dsimp only [fG] at b
 refine aj (ww (mi z (mF z fI (mL z (c.bc1 z) (mz (bX z uI (ay y)) (mb z (nt (bw b z ?_ ?_))))))))
 {
 refine fun d5 b=>al (tn (aj (au (rg c 32 [0,1,3,7,3,31,63,127,3,259,3,1795,3843,7939,16383,32767,65535,131071,262143,131071,1048575,2097151,4194303,131071,8519679,131071,58851327,125960191,260177919,536870911,1073741823,2147483647] [31] mixed (sb 0 z z (sb 1 z z (bs b ?_ ?_)))))))
 {
 refine fun d b=>sg _ 2 z d (fun w c=>xF z fI z) (sg _ 3 z d (fun w c=>xL z (c.bc1 z)) (sgz (I6 _) 4 z d z ?_))
 obtain ⟨g8,d6,b⟩:=bn b
 obtain ⟨P,Q,d7⟩:=aV d6
 refine sg _ 5 z d (fun w c=>aJ z z uI sI (ay y) P Q) (sg _ 6 z d (fun w c=>xG z fI z) ?_)
 obtain ⟨g9,d8,S⟩:=Rd.lC y d7
 obtain ⟨d9,rfl,e0,-⟩:=d8
 refine sg _ 7 z d (fun w c=>xL z ((S lr c) 0 _ z)) (sg _ 8 z d (fun w c=>xF z fI z) (sg _ 9 z d (fun w c=>xL z (c.bc0 z)) (sgz (I6 _) 10 z d z ?_)))
 obtain ⟨h0,e2,b⟩:=bn b
 obtain ⟨T,U,e3⟩:=aV e2
 refine sg _ 11 z d (fun w c=>aJ z z uI sI (ay A) T U) (sg _ 12 z d (fun w c=>xG z fI z) ?_)
 obtain ⟨h1,e4,V⟩:=Rd.lC A e3
 obtain ⟨e5,rfl,e6,-⟩:=e4
 refine sg _ 13 z d (fun w c=>xL z ((V lr c) 0 _ z)) (sgz (.bool _) 14 z d z (sh (.bool _) 15 z (fun w c=>bi d z z) (sb 16 z z (bs b ?_ ?_))))
 {
 refine fun f b=>sg _ 17 z f (fun w c=>xF z fI z) (sg _ 18 z f (fun w c=>xL z (c.bc1 z)) (sgz (I6 _) 19 z f z (sg _ 20 z f (fun w c=>aJ z z uI sI (ay y) P Q) (sg _ 21 z f (fun w c=>xG z fI z) (sg _ 22 z f (fun w c=>xL z ((S lr c) 1 _ z)) (sg _ 23 z f (fun w c=>xF z fI z) (sg _ 24 z f (fun w c=>xL z (c.bc0 z)) (sgz (I6 _) 25 z f z (sg _ 26 z f (fun w c=>aJ z z uI sI (ay A) T U) (sg _ 27 z f (fun w c=>xG z fI z) (sg _ 28 z f (fun w c=>xL z ((V lr c) 1 _ z)) (iN 29 krA (nxe [30,31] krA z ((av z z z (cvb f)).trans z) ?_)))))))))))))
 clear c
 intro w c
 obtain ⟨W,e7,b⟩:=bn b
 refine wec call18 [d9,e5] z z (kcO (pd (e0.mono (cW _)) (e6.mono (cW _)) c.to0 e7) fun h2 c=>w0n c (sh (.bool _) 30 z (fun w c=>bi f z z) (e1 31 z z fun w c=>cj (v:=.bool W) (w':=w) z z (w0n c (bt ?_)))))
 refine fun w c=>bJ (tn (wrl (mi z (mi z (mi z (nt ?_))))))
 cases b
 exact ⟨_,nls,W,_,H,fy z,c.ah.ah.cv⟩
}
 refine fun f b=>so 17 z f (so 18 z f (so 19 z f (so 20 z f (so 21 z f (so 22 z f (so 23 z f (so 24 z f (so 25 z f (so 26 z f (so 27 z f (so 28 z f (so 29 z f (sh (.bool _) 30 z (fun w c=>aL f z z) (e1 31 z z fun w c=>cj (v:=.bool false) (w':=w) z z (w0n c (bt ?_))))))))))))))))
 refine fun w c=>bJ (tn (wrl (mi z (mi z (mi z (nt ?_))))))
 cases b
 exact ⟨_,nls,false,_,H,fy z,c.ah.ah.cv⟩
}
 refine fun d b=>so 2 z d (so 3 z d (so 4 z d (so 5 z d (so 6 z d (so 7 z d (so 8 z d (so 9 z d (so 10 z d (so 11 z d (so 12 z d (so 13 z d (so 14 z d (sh (.bool _) 15 z (fun w c=>aL d z z) (sb 16 z z (sq 17 z (sq 18 z (sq 19 z (sq 20 z (sq 21 z (sq 22 z (sq 23 z (sq 24 z (sq 25 z (sq 26 z (sq 27 z (sq 28 z (sq 29 z (sh (.bool _) 30 z (fun w c=>aL z z z) (e1 31 z z fun w c=>cj (v:=.bool false) (w':=w) z z (w0n c (bt ?_)))))))))))))))))))))))))))))))
 refine fun w c=>bJ (tn (wrl (mi z (mi z (mi z (nt ?_))))))
 cases b
 exact ⟨_,nls,false,_,H,fy z,c.ah.ah.cv⟩
}
 refine fun d5 b=>bH (aQ (aQ ?_))
 replace b:=bz b H
 refine cZ (tn ?_)
 obtain rfl:=sj b
 exact ⟨G,d3,fy z,c.cT⟩
}
 rintro _ h3 ⟨F,b,⟨h4,rfl⟩,c⟩
 dsimp only [nL] at b
 refine wrl (mb z (mb z (bs b ?_ ?_)))
 {
 refine fun B b=>go B (mb (bi B z z) (mb z (dv (bJ (tn (wrl (mi z (mi z (mi z (nt ?_))))))))))
 cases b
 exact ⟨_,nls,true,_,t,fy z,c.cT⟩
}
 refine fun B b=>gb B z (mb (aL B z z) (mb z (dv (bJ (tn (wrl (mi z (mi z (mi z (nt ?_))))))))))
 cases b
 exact ⟨_,nls,F,_,t,fy z,c.cT⟩
}
 refine fun d1 b=>al (bJ (tn (wrl (mi z (mi z (mi z (nt ?_)))))))
 cases b
 exact ⟨_,nls,p,_,t,fy z,c.cT⟩
}
 refine fun g b=>go g (go g (go g (go g (go g (go g (go g (mb (aL g z z) (nt (cJ z (al (bJ (tn (wrl (mi z (mi z (mi z (nt ?_)))))))))))))))))
 cases b
 exact ⟨_,nls,p,_,t,fy z,c.cT⟩
}
 refine fun m b=>go m (go m (go m (go m (go m (mb (aL m z z) (mb z (gz (gz (gz (gz (gz (gz (gz (mb (aL z z z) (nt (cJ z (al (bJ (tn (wrl (mi z (mi z (mi z (nt ?_))))))))))))))))))))))))
 cases b
 exact ⟨_,nls,p,_,t,fy z,c.cT⟩
}
 refine fun l b=>go l (go l (go l (go l (go l (mb (aL l z z) (mb z (gz (gz (gz (gz (gz (mb (aL z z z) (mb z (gz (gz (gz (gz (gz (gz (gz (mb (aL z z z) (nt (cJ z (al (bJ (tn (wrl (mi z (mi z (mi z (nt ?_)))))))))))))))))))))))))))))))
 cases b
 exact ⟨_,nls,p,_,t,fy z,c.cT⟩
}
 refine fun k b=>go k (go k (go k (go k (go k (mb (aL k z z) (mb z (gz (gz (gz (gz (gz (mb (aL z z z) (mb z (gz (gz (gz (gz (gz (mb (aL z z z) (mb z (gz (gz (gz (gz (gz (gz (gz (mb (aL z z z) (nt (cJ z (al (bJ (tn (wrl (mi z (mi z (mi z (nt ?_))))))))))))))))))))))))))))))))))))))
 cases b
 exact ⟨_,nls,p,_,t,fy z,c.cT⟩
}
 refine fun j b=>go j (go j (go j (go j (go j (mb (aL j z z) (mb z (gz (gz (gz (gz (gz (mb (aL z z z) (mb z (gz (gz (gz (gz (gz (mb (aL z z z) (mb z (gz (gz (gz (gz (gz (mb (aL z z z) (mb z (gz (gz (gz (gz (gz (gz (gz (mb (aL z z z) (nt (cJ z (al (bJ (tn (wrl (mi z (mi z (mi z (nt ?_)))))))))))))))))))))))))))))))))))))))))))))
 cases b
 exact ⟨_,nls,p,_,t,fy z,c.cT⟩
}
 refine fun b3 b=>bH (aQ (aQ ?_))
 replace b:=bz b t
 refine cZ (tn (ww (mb z (mb z (nt (bw b z ?_ ?_))))))
 {
 intro e8 b
 cases b
}
 refine fun e8 b=>al (bJ (tn (wrl (mi z (mi z (mi z (nt ?_)))))))
 cases b
 exact ⟨_,nls,_,K,fy z,c.cT⟩
}
 refine fun b0 b=>bH (aQ (aQ ?_))
 replace b:=bz b K
 refine cZ (tn (ww (mb z (nt (ar ?_)))))
 cases b
 exact pB z z ⟨z,c.cT⟩
}
theorem xD {a0:(Option bN)} {p0:Value} (b:St w0 w I [cX cb p0 a0] R) {r:((List cy))} (c:kx a0=some r) :
  Calls prog 155 #[p0] w fun e w'=>∃ (k:Value),e = .returned (k)∧St w0 w' I [bp pA k r,cX cb p0 a0] R:=by {
 rcases a0 with _ | h
 {
 dsimp only [kx] at c
 cases c
}
 replace b:=bQ b
 dsimp only [kx] at c
 refine c0 func155 z z (ww (mv ((.slice none 0 0)) z (nt (ww (mv ((.slice none 0 0)) z (nt (aj (ww (mv (p0) z ?_)))))))))
 replace b:=aR b
 obtain ⟨l,p,c⟩:=bn c
 refine wc call169 [p0] z z z (kcI (pM b.to1 p) fun N b=>?_)
 replace b:=bQ b
 refine mi z (nt (au ?_))
 replace b:=b.ba pA
 obtain ⟨q,c⟩:=aS c
 refine bg (fun n a w=>∃ (g:(List cy)) (i:Int) (d:Value),cU (jt l h) n (g,i)=some r∧fz 23 [0,3,6,7] [p0,d,I6 l,I6 i] a∧St w0 w I [bp pA d g,cb p0 h] R) q ⟨[],0,Zs,c,fy z,b⟩ ?_
 rintro O _ P ⟨g,i,d,c,⟨Q,rfl⟩,b⟩
 obtain ⟨S,T,rfl,c,m⟩:=aU c
 dsimp only [jt] at c
 refine ww (mb z (nt (aj (bw c z ?_ ?_))))
 {
 refine fun s c=>al (tn (aj (au (ww (mi z (mi z (nt (wrl (mv (d) z (mv (p0) z ?_))))))))))
 obtain ⟨t,U,rfl,u⟩:=dP b.ah
 have b:=u
 refine mp z (mF z fI (mL z (b.bc0 z) (mi z ?_)))
 obtain ⟨f,x,c⟩:=bn c
 obtain ⟨y,A,B⟩:=aV x
 refine mz (aJ z z uI sI b.sv1 y A) (mz (xG z fI z) ?_)
 obtain ⟨V,C,D⟩:=b.og1 B
 obtain ⟨W,X,Y,Z,rfl,b0,b1,b2,b3,-⟩:=C
 refine mz (xN (cs:=[U6 f.ID.ab,U6 f.ID.Seq]) z (et (o:=0) D z)) ?_
 obtain ⟨F,G,H,J,b⟩:=b.lits (E:=pA) (xs:=[f.ID]) [[U6 f.ID.ab,U6 f.ID.Seq]] 28 1 z (bT.cons z bT.nil)
 refine cK (v:=(.slice (some ⟨F,0,none⟩) 1 1)) (w':=G) z z (dH krA H J) ?_
 obtain ⟨K,c⟩:=cF c
 replace b:=b.aA
 obtain ⟨j,L,M,b⟩:=bO Ic underlying159 b b.iL (cP K z) 159
 refine cK (v:=j) (w':=L) z z (ck z z M) (mv (j) z (dv (bJ (tn (wrl (mi z (mi z (nt ?_))))))))
 cases c
 exact ⟨_,nls,(g++([f.ID])),_,j,m,fy z,(dt (Pt t 0) h b.aA.aA z).ah.cv⟩
}
 refine fun s c=>bH (aQ (aQ ?_))
 replace c:=bz c m
 refine cZ (tn (ww (mv (d) z (mv (d) z (nt (ar ?_))))))
 cases c
 exact dI [d] z (rc z bl) ⟨d,z,(aR b.ah).ah.cv⟩
}
theorem vD {a0:(Option ai)} {p0:Value} (a:St w0 w I [cX aM p0 a0] R) {r:((List cy))} (b:lB a0=some r) :
  Calls prog 87 #[p0] w fun e w'=>∃ (d:Value),e = .returned (d)∧St w0 w' I [bp pA d r,cX aM p0 a0] R:=by {
 rcases a0 with _ | f
 {
 dsimp only [lB] at b
 cases b
}
 replace a:=bQ a
 dsimp only [lB] at b
 refine c0 func87 z z (ww (mv ((.slice none 0 0)) z (nt (aj (ww (mv (p0) z ?_))))))
 obtain ⟨g,k,h,l,m,n,o,p,rfl,i⟩:=bC a
 have a:=i
 refine mk (.bool false) (nt (cJ z (al (tn (ww (mp z (mp z (mF z fI (mL z (a.bc0 z) ?_)))))))))
 replace a:=a.aD
 obtain ⟨q,j,b⟩:=bn b
 refine wc call155 [h] z z z (kdJ (xD a.to1 j) fun c s a=>mv (c) z (nt (ar ?_)))
 cases b
 exact dI [c] z (rc z bl) ⟨c,z,(aR (aF (Pt g 0) f a.bM.bM.bM.bM.bM.de.bM.bM z)).ah.cv⟩
}
theorem xw {a0:(Option ai)} {p0:Value} {a1:cy} (a:St w0 w I [cX aM p0 a0] R) {r:(aw×Bool)} (c:nM a0 a1=some r) :
  Calls prog 88 #[p0,.agg #[U6 a1.ab,U6 a1.Seq]] w fun e w'=>∃ (I':HL) (j:Value) (k:Value) (l:Value) (m:Value),e = .returned (.tuple #[.agg #[U6 r.1.ID.ab,U6 r.1.ID.Seq,U6 r.1.ae,j,k,l,m],.bool r.2])∧I.le I'∧Ro cp I' j r.1.dO∧Ro fU I' k r.1.aX∧Ro cp I' l r.1.dD∧Ro (cr .u8) I' m r.1.Data∧St w0 w' I' [cX aM p0 a0] R:=by {
 rcases a0 with _ | s
 {
 dsimp only [nM] at c
 cases c
}
 replace a:=bQ a
 dsimp only [nM] at c
 refine c0 func88 z z ?_
 have d:=HL.le.refl I
 refine ww ?_
 obtain ⟨E,F,t,u,a⟩:=a.box [U6 a1.ab,U6 a1.Seq] 28
 refine wa t u ?_
 obtain ⟨G,H,v,x,a⟩:=a.box [Zu,Zu,Zu,Zs,Zs,Zs,Zs] 46
 refine wa v x (mb z (nt (aj (ww (mv (p0) z ?_)))))
 obtain ⟨y,J,A,K,L,M,N,O,rfl,B⟩:=bC a.aD
 have a:=B
 refine mk (.bool false) (nt (cJ z (al (tn (aj (rg a 10 [0,1,3,7,0,31,63,63,255,511] [] mixed (sp 0 z z (sp 1 z z (sF 2 z z fI (sL 3 z z (·.bc0 z) (sh _ 4 z (fun w a=>xN (cs:=[U6 a1.ab,U6 a1.Seq]) z (a.AZ 0 z)) (e1 5 z z fun w a=>?_))))))))))))
 replace a:=a.aD
 obtain ⟨b,C,c⟩:=bn c
 refine wec call56 [A,.agg #[U6 a1.ab,U6 a1.Seq]] z z ((pU a.to1 C).mono ?_)
 rintro _ P ⟨Q,f,g,h,i,rfl,D,n,o,p,q,a⟩
 refine ⟨_,z,?_⟩
 replace a:=a.of1
 replace d:=d.trans D
 refine w0n a (sz (.agg #[U6 b.1.ID.ab,U6 b.1.ID.Seq,U6 b.1.ae,f,g,h,i]) 6 z z (sb 7 z z (e1 8 z z fun w a=>?_)))
 replace a:=a.bM
 refine bxe a z sI (oJ 3 z (oC (oS (ak n)) (oC (oS (ak o)) (oC (oS (ak p)) (oC (oS (ak q)) oN))))) fun S a=>w0n a (sb 9 z z (bt ?_))
 refine fun w a=>tn (ar ?_)
 replace a:=aR (aF (Pt y 0) s a.bM.bM.bM.bM.bM.de.bM.bM z)
 cases c
 exact dI [.agg #[U6 b.1.ID.ab,U6 b.1.ID.Seq,U6 b.1.ae,f,g,h,i],.bool b.2] z (ea (rN z (a.fO 0 tz)) (rc z bl)) ⟨_,f,g,h,i,z,d,n,o,p,q,a.bF⟩
}
theorem oq {a0:Int} (a:St w0 w I [] R) {r:(Nat)} (b:qJ a0=some r) :
  Calls prog 90 #[I6 a0] w fun e w'=>e = .returned (.float .f64 r)∧St w0 w' I [] R:=by {
 unfold qJ at b
 refine c0 func90 z z (ww (mv (F6 _) z (nt (ww ?_))))
 obtain ⟨c,d,f,g,a⟩:=a.lits (E:=cp) (xs:=[(0:Nat),(4607182418800017408:Nat),(13830554455654793216:Nat),(4612811918334230528:Nat),(9094988921128908188:Nat),(18318360957983683996:Nat),(4602678819172646912:Nat),(4613937818241073152:Nat)]) [[Zf],[F6 (4607182418800017408:Nat)],[F6 (13830554455654793216:Nat)],[F6 (4612811918334230528:Nat)],[F6 (9094988921128908188:Nat)],[F6 (18318360957983683996:Nat)],[F6 (4602678819172646912:Nat)],[F6 (4613937818241073152:Nat)]] 37 8 z (bT.cons z (bT.cons z (bT.cons z (bT.cons z (bT.cons z (bT.cons z (bT.cons z (bT.cons z bT.nil))))))))
 refine cK (v:=(.slice (some ⟨c,0,none⟩) 8 8)) (w':=d) z z (dH krA f g) (mv ((.slice (some ⟨c,0,none⟩) 8 8)) z (nt (ww (mv ((.slice (some ⟨c,0,none⟩) 8 8)) z (mi z (mi (Gy deA z z) ?_))))))
 obtain ⟨h,i,b⟩:=bn b
 obtain ⟨j,k,l⟩:=aV i
 refine mz (aJ z z uI sI a.sv0 j k) (mL z (a.ol0 l riA) (mv (F6 _) z (nt (ar ?_))))
 obtain rfl:=sj b
 exact dI [F6 h] z (rc z bl) ⟨z,a.cT⟩
}
theorem yA {a0:(Option ai)} {p0:Value} {a1:Nat} (a:St w0 w I [cX aM p0 a0] R) {r:(cC)} (b:oW a0 a1=some r) :
  Calls prog 21 #[p0,F6 a1] w fun e w'=>∃ (d:Value),e = .returned (.agg #[.bool r.Has,d])∧St w0 w' I [bp (cr .u8) d r.Val,cX aM p0 a0] R:=by {
 rcases a0 with _ | g
 {
 dsimp only [oW] at b
 cases b
}
 replace a:=bQ a
 dsimp only [oW] at b
 refine c0 func21 z z (ww ?_)
 obtain ⟨n,o,h,i,a⟩:=a.box [.bool false,Zs] 61
 refine wa h i (nt (aj (ww (mv (p0) z ?_))))
 obtain ⟨j,k,p,q,s,t,u,v,rfl,l⟩:=bC a.ah
 have a:=l
 refine mk (.bool false) (nt (cJ z (al (tn (ww (mp z (mp z (mF z fI (mL z (a.bc0 z) (mv (F6 _) z ?_))))))))))
 replace a:=a.ah
 obtain ⟨f,m,b⟩:=bn b
 refine wc call60 [k,F6 a1,U6 18446744073709551615] z z z (kdJ (qA a.to1 m) fun c x a=>?_)
 replace a:=a.ca
 refine bxk a z sI (oC z (oC (oS a.sv1) oN)) fun y a=>nt (ar ?_)
 replace a:=aR (aF (Pt j 0) g a.ca.ca.ca.ca.ca.ca.bM.ca z)
 obtain rfl:=sj b
 exact dI [.agg #[.bool f.Has,c]] z (ea (rN (cs:=[.bool f.Has,c]) z (a.fO 0 z)) bl) ⟨c,z,a.aD.cv⟩
}
theorem ti {a0:(Option ai)} {p0:Value} {a1:Int} (b:St w0 w I [cX aM p0 a0] R) {r:(Int)} (a:ic a0 a1=some r) :
  Calls prog 63 #[p0,U6 a1] w fun e w'=>e = .returned (.int .i64 r)∧St w0 w' I [cX aM p0 a0] R:=by {
 rcases a0 with _ | d
 {
 dsimp only [ic] at a
 cases a
}
 replace b:=bQ b
 dsimp only [ic] at a
 refine c0 func63 z z (ww (mi z (nt (aj (au (ww (mv (p0) z ?_)))))))
 obtain ⟨c,i,j,k,l,m,n,o,rfl,f⟩:=bC b
 have b:=f
 refine mk (.bool false) (mb z (wv (.int .u64 a1) ((av z z z z).trans z) z z (wv (Pt c 0) ((av z z z z).trans z) z z (wv (Pt c 0) ((av z z z z).trans z) z z (wv (Pt c 1) ((av z z z z).trans z) z (xF z fI z) (wv (.int .u64 d.cI) ((av z z z z).trans z) z (xL z (b.bc0 z)) (wv (.bool (decide (a1≥d.cI))) ((av z z z z).trans z) z z (mb (aL z z z) (mb z (nt (bw a z ?_ ?_)))))))))))
 {
 refine fun g a=>ww (mi z (nt (ar (eo (bh ?_)))))
 cases a
 exact pI z z ⟨z,(aR (aF (Pt c 0) d b.aW.aW.aW.aW.aW.aW.aW.aW z)).bF⟩
}
 refine fun g a=>ww (mi z (mi z (mi z (mp z (mp z (mF z fI (mL z (b.bc0 z) (mb z (mb z (nt (bw a z ?_ ?_)))))))))))
 {
 refine fun h a=>ww (mi z (nt (ar (eo (bh ?_)))))
 cases a
 exact pI z z ⟨z,(aR (aF (Pt c 0) d b.aW.aW.aW.aW.aW.aW.aW.aW z)).bF⟩
}
 refine fun h a=>al (bJ (tn (ww (mi z (nt (ar ?_))))))
 cases a
 exact pI z z ⟨z,(aR (aF (Pt c 0) d b.aW.aW.aW.aW.aW.aW.aW.aW z)).bF⟩
}
theorem yu {a0:(Option ai)} {p0:Value} {a1:Nat} {a2:Int} (a:St w0 w I [cX aM p0 a0] R) {r:(cC×Int)} (b:oU a0 a1 a2=some r) :
  Calls prog 25 #[p0,F6 a1,U6 a2] w fun e w'=>∃ (d:Value),e = .returned (.tuple #[.agg #[.bool r.1.Has,d],I6 r.2])∧St w0 w' I [bp (cr .u8) d r.1.Val,cX aM p0 a0] R:=by {
 rcases a0 with _ | g
 {
 dsimp only [oU] at b
 cases b
}
 replace a:=bQ a
 dsimp only [oU] at b
 refine c0 func25 z z (ww ?_)
 obtain ⟨q,s,h,i,a⟩:=a.box [.bool false,Zs] 61
 refine wa h i (mi z (nt (aj (ww (mv (p0) z (mi z ?_))))))
 replace a:=aR a.ah
 obtain ⟨j,k,b⟩:=bn b
 refine wc call63 [p0,U6 a2] z z z (kcI (ti a.to1 k) fun t a=>?_)
 replace a:=bQ a
 refine mi z (nt (ww (mi z (mb z (nt (bw b z ?_ ?_))))))
 {
 refine fun l b=>ww (mk (.agg #[.bool false,Zs]) (mi z ?_))
 replace a:=a.ah
 refine bxk a z sI (oC z (oC z oN)) fun u a=>mi z (nt (ar (bh ?_)))
 replace a:=aR ((a.ba (cr .u8)).aD)
 cases b
 exact dI [.agg #[.bool false,Zs],I6 j] z (ea (rN (cs:=[.bool false,Zs]) z (a.ta 0 z)) (rc z bl)) ⟨(.slice none 0 0),z,a.ah.cv⟩
}
 refine fun l b=>al (tn (ww (mv (p0) z ?_)))
 obtain ⟨m,n,v,x,y,A,B,C,rfl,o⟩:=bC a
 have a:=o
 refine mp z (mF z fI (mL z (a.bc0 z) (mv (F6 _) z (mi z ?_))))
 replace a:=a.ah
 obtain ⟨f,p,b⟩:=bn b
 refine wc call60 [n,F6 a1,U6 a2] z z z (kdJ (qA a.to1 p) fun c D a=>?_)
 replace a:=a.ca
 refine bxk a z sI (oC z (oC (oS a.sv1) oN)) fun E a=>mi z (nt (ar ?_))
 replace a:=aR (aF (Pt m 0) g a.ca.ca.ca.ca.ca.ca.bM.ca z)
 cases b
 exact dI [.agg #[.bool f.Has,c],Zi] z (ea (rN (cs:=[.bool f.Has,c]) z (a.fO 0 z)) (rc z bl)) ⟨c,z,a.aD.cv⟩
}
theorem yw {a0:(Option ai)} {p0:Value} {a1:Int} (b:St w0 w I [cX aM p0 a0] R) {r:((List dw))} (c:oO a0 a1=some r) :
  Calls prog 15 #[p0,I6 a1] w fun e w'=>∃ (p:Value),e = .returned (p)∧St w0 w' I [bp cL p r,cX aM p0 a0] R:=by {
 rcases a0 with _ | f
 {
 dsimp only [oO] at c
 cases c
}
 replace b:=bQ b
 dsimp only [oO] at c
 refine c0 func15 z z (ww (mv ((.slice none 0 0)) z (nt (ww (mv ((.slice none 0 0)) z (nt (aj (ww (mv (p0) z ?_)))))))))
 obtain ⟨q,s,t,u,x,y,i,A,rfl,C⟩:=bC b
 have b:=C
 refine mk (.bool false) (nt (cJ z (al (tn (aj (ww (mp z (mp z (mF z fI (mL z (b.bc0 z) (mz (bX z uI b.sv6) (mi z (nt (au ?_))))))))))))))
 replace b:=b.ba cL
 obtain ⟨D,c⟩:=aS c
 refine bg (fun n a w=>∃ (j:Int) (h:(List dw)) (g:Value),cU (jY f a1) n (j,h)=some r∧fz 30 [1,5,14,15,16] [I6 a1,g,i,I6 ((f.out).length:Int),I6 j] a∧St w0 w I [bp cL g h,cells q [I6 f.wide,U6 f.cI,s,t,u,x,y,i,A],cX cA s f.store,cX cb t f.ft,cX bV u f.last,cX cH x f.book,bp bc y f.open_,bp cL i f.out,bp db A f.used] R) D ⟨0,[],Zs,c,fy z,b⟩ ?_
 rintro b0 _ b1 ⟨j,h,g,c,⟨b2,rfl⟩,b⟩
 obtain ⟨b3,b4,rfl,c,k⟩:=aU c
 dsimp only [jY] at c
 refine ww (mb z (nt (aj (bw c z ?_ ?_))))
 {
 refine fun F c=>al (tn (aj (au (ww ?_))))
 obtain ⟨d,G,c⟩:=bn c
 obtain ⟨H,J,K⟩:=aV G
 refine mz (aJ z z uI sI b.sv7 H J) ?_
 obtain ⟨b5,L,M⟩:=b.og7 K
 obtain ⟨B,rfl,l,-⟩:=L
 refine mz (xN (cs:=[I6 d.To,U6 d.N,U6 d.ap,U6 d.ae,F6 d.W.At,.bool d.W.Del,B]) z (et (o:=0) M z)) ?_
 obtain ⟨b6,b7,O,P,b⟩:=b.box [Zi,Zu,Zu,Zu,Zf,.bool false,Zs] 53
 refine wa O P (bxk b z sI (oJ 6 z (oC (oS (ak l)) oN)) fun b8 b=>nt (ww (mF z fI (mL z (b.bc0 z) (mi z (mb z (nt (bw c z ?_ ?_))))))))
 {
 refine fun Q c=>wrl (mv (g) z (mz (xN z (b.fm 0 tz)) ?_))
 obtain ⟨S,T,U,V,b⟩:=b.lits (E:=cL) (xs:=[d]) [[I6 d.To,U6 d.N,U6 d.ap,U6 d.ae,F6 d.W.At,.bool d.W.Del,B]] 53 1 z (bT.cons ⟨_,z,l,oS (ak l)⟩ bT.nil)
 refine cK (v:=(.slice (some ⟨S,0,none⟩) 1 1)) (w':=T) z z (dH krA U V) ?_
 obtain ⟨X,c⟩:=cF c
 replace b:=b.aD
 obtain ⟨m,Y,Z,b⟩:=bO vu underlying50 b b.iL (cP X z) 50
 refine cK (v:=m) (w':=Y) z z (ck z z Z) (mv (m) z (dv (bJ (tn (wrl (mi z (mi z (nt ?_))))))))
 cases c
 exact ⟨_,nls,_,(h++([d])),m,k,fy z,b.bR.bR.bR.bR.bR.bR.bR.bR.bM.tU⟩
}
 refine fun Q c=>al (bJ (tn (wrl (mi z (mi z (nt ?_))))))
 cases c
 exact ⟨_,nls,_,h,g,k,fy z,b.ca.ca.ca.ca.ca.ca.ca.ca.ca.tU⟩
}
 refine fun F c=>bH (aQ (aQ ?_))
 replace c:=bz c k
 refine cZ (tn (ww (mv (g) z (mv (g) z (nt (ar ?_))))))
 cases c
 exact dI [g] z (rc z bl) ⟨g,z,(aR (aF (Pt q 0) f b.bM.bM.bM.bM.bM.bM.bM.bM z)).ah.cv⟩
}
theorem yo {a0:aq} {p0:Value} {a1:Int} (b:St w0 w I [bm p0 a0] R) {r:((List dw))} (c:rj a0 a1=some r) :
  Calls prog 92 #[p0,I6 a1] w fun e w'=>∃ (s:Value),e = .returned (s)∧St w0 w' I [bp cL s r,bm p0 a0] R:=by {
 unfold rj at c
 refine c0 func92 z z (ww (mv ((.slice none 0 0)) z (nt (ww (mv ((.slice none 0 0)) z (nt (aj (ww (mi z (nt (au ?_)))))))))))
 replace b:=b.ba cL
 obtain ⟨B,c⟩:=aS c
 refine bg (fun n a w=>∃ (g:(List dw)) (h:Int) (f:Value),cU (ka a0 a1) n (g,h)=some r∧fz 37 [0,1,5,6] [p0,I6 a1,f,I6 h] a∧St w0 w I [bp cL f g,bm p0 a0] R) B ⟨[],0,Zs,c,fy z,b⟩ ?_
 rintro T _ U ⟨g,h,f,c,⟨V,rfl⟩,b⟩
 obtain ⟨X,Y,rfl,c,i⟩:=aU c
 dsimp only [ka] at c
 refine aj (ww (mi z (mv (p0) z ?_)))
 obtain ⟨j,Z,b0,b1,b2,b3,b4,b5,⟨rfl,k,l,m,p⟩,C⟩:=bS b.ah
 have b:=C
 refine mp z (mF z fI (mL z (b.bc0 z) (mz (bX z uI b.sv2) (mb z (nt (bw c z ?_ ?_))))))
 {
 refine fun D c=>al (tn (aj (au (ww (mp z (mp z (mF z fI (mL z (b.bc0 z) (mi z ?_)))))))))
 obtain ⟨d,F,c⟩:=bn c
 obtain ⟨t,u,G⟩:=aV F
 refine mz (aJ z z uI sI b.sv2 t u) (mz (xG z fI z) ?_)
 obtain ⟨b6,H,x⟩:=b.og2 G
 obtain ⟨y,rfl,A,-⟩:=H
 refine mL z (x 0 _ z) (mi z (mb z (nt (bw c z ?_ ?_))))
 {
 refine fun J c=>wrl (mv (f) z (mp z (mp z (mF z fI (mL z (b.bc0 z) (mi z (mz (aJ z z uI sI b.sv2 t u) (mz (xN (cs:=[I6 d.To,U6 d.N,U6 d.ap,U6 d.ae,F6 d.W.At,.bool d.W.Del,y]) z (et (o:=0) x z)) ?_))))))))
 obtain ⟨K,L,M,O,b⟩:=b.lits (E:=cL) (xs:=[d]) [[I6 d.To,U6 d.N,U6 d.ap,U6 d.ae,F6 d.W.At,.bool d.W.Del,y]] 53 1 z (bT.cons ⟨_,z,A,oS (ak A)⟩ bT.nil)
 refine cK (v:=(.slice (some ⟨K,0,none⟩) 1 1)) (w':=L) z z (dH krA M O) ?_
 obtain ⟨P,c⟩:=cF c
 replace b:=b.bq
 obtain ⟨q,Q,S,b⟩:=bO vu underlying50 b b.iL (cP P z) 50
 refine cK (v:=q) (w':=Q) z z (ck z z S) (mv (q) z (dv (bJ (tn (wrl (mi z (mi z (mi z (nt ?_)))))))))
 cases c
 exact ⟨_,nls,(g++([d])),_,q,i,fy z,(aC (Pt j 0) a0 b.bq.bq.bq.bq ⟨z,k,l,m,p⟩).ah.cv⟩
}
 refine fun J c=>al (bJ (tn (wrl (mi z (mi z (mi z (nt ?_)))))))
 cases c
 exact ⟨_,nls,g,_,f,i,fy z,(aC (Pt j 0) a0 b.aA.aA.aA.aA ⟨z,k,l,m,p⟩).ah.cv⟩
}
 refine fun D c=>bH (aQ (aQ ?_))
 replace c:=bz c i
 refine cZ (tn (ww (mv (f) z (mv (f) z (nt (ar ?_))))))
 cases c
 exact dI [f] z (rc z bl) ⟨f,z,(aC (Pt j 0) a0 b.aA.aA.aA.aA ⟨z,k,l,m,p⟩).ah.cv⟩
}
theorem xI {a0:(List dw)} {i:Value} {a1:(List dw)} {j:Value} (m:Ro cL I i a0) (p:Ro cL I j a1) (b:St w0 w I [] R) {r:(Bool)} (c:nP a0 a1=some r) :
  Calls prog 91 #[i,j] w fun e w'=>e = .returned (.bool r)∧St w0 w' I [] R:=by {
 unfold nP at c
 refine c0 func91 z z (ww (mb z (nt (aj (ww (mv (i) z (mz (bX z uI (ak m)) (mv (j) z (mz (bX z uI (ak p)) (mb z (nt (bw c z ?_ ?_))))))))))))
 {
 intro T c
 cases c
}
 refine fun T c=>al (tn (aj (ww (mi z (nt (au ?_))))))
 obtain ⟨U,c⟩:=aS c
 refine bg (fun n a w=>∃ (A:Int),cU (ll a0 a1) n A=some r∧fz 83 [0,1,5] [i,j,I6 A] a∧St w0 w I [] R) U ⟨0,c,fy z,b⟩ ?_
 rintro d0 _ d1 ⟨A,c,⟨d2,rfl⟩,b⟩
 obtain ⟨d3,V,rfl,c,H⟩:=aU c
 dsimp only [ll] at c
 refine aj (ww (mi z (mv (i) z (mz (bX z uI (ak m)) (mb z (nt (bw c z ?_ ?_)))))))
 {
 refine fun X c=>al (tn (aj (au (aj ?_))))
 obtain ⟨d4,c,J⟩:=bn c
 refine vy (fun a w=>∃ (G:Bool),(nK A) G=some V∧fz 83 [0,1,5,82] [i,j,I6 A,.bool G] a∧St w0 w I [] R) ?_ ?_
 {
 refine rg b 66 [0,0,3,7,15,0,0,96,224,480,1023,2047,4095,4095,16383,32767,65535,4095,4095,397311,921599,1970175,4194303,8388607,16777215,33554431,33554431,134217727,268435455,536870911,33554431,33554431,3254779903,7549747199,16139681791,34359738367,68719476735,137438953471,274877906943,274877906943,1099511627775,2199023255551,4398046511103,274877906943,274877906943,26663156973567,61847529062399,132216273240063,281474976710655,562949953421311,1125899906842623,2251799813685247,2251799813685247,9007199254740991,18014398509481983,36028797018963967,72057594037927935,2251799813685247,2251799813685247,434597364041252863,1011058116344676351,2163979620951523327,4469822630165217279,9223372036854775807,18446744073709551615,36893488147419103231] [] mixed (sz (i) 0 z z (si 1 z z ?_))
 obtain ⟨k,Y,c⟩:=bn c
 obtain ⟨q,s,Z⟩:=aV Y
 refine sh _ 2 z (fun w b=>aJ z z uI sI (ak m) q s) (sh _ 3 z (fun w b=>xG z fI z) ?_)
 obtain ⟨d5,b0,t⟩:=Ro.lC m Z
 obtain ⟨B,rfl,C,-⟩:=b0
 refine sL 4 z z (fun b=>(t lr b) 0 _ z) (sz (j) 5 z z (si 6 z z ?_))
 obtain ⟨l,b1,c⟩:=bn c
 obtain ⟨u,x,b2⟩:=aV b1
 refine sh _ 7 z (fun w b=>aJ z z uI sI (ak p) u x) (sh _ 8 z (fun w b=>xG z fI z) ?_)
 obtain ⟨d6,b3,y⟩:=Ro.lC p b2
 obtain ⟨D,rfl,F,-⟩:=b3
 refine sL 9 z z (fun b=>(y lr b) 0 _ z) (sb 10 z z (sb 11 z z (bs c ?_ ?_)))
 {
 intro f c
 cases c
}
 refine fun f c=>sgz i 12 z f z (sgz (I6 _) 13 z f z (sg _ 14 z f (fun w b=>aJ z z uI sI (ak m) q s) (sg _ 15 z f (fun w b=>xG z fI z) (sg _ 16 z f (fun w b=>xL z ((t lr b) 1 _ z)) (sgz j 17 z f z (sgz (I6 _) 18 z f z (sg _ 19 z f (fun w b=>aJ z z uI sI (ak p) u x) (sg _ 20 z f (fun w b=>xG z fI z) (sg _ 21 z f (fun w b=>xL z ((y lr b) 1 _ z)) (sgz (.bool _) 22 z f z (sh (.bool _) 23 z (fun w b=>aL f z z) (sb 24 z z (bs c ?_ ?_)))))))))))))
 {
 intro g c
 cases c
}
 refine fun g c=>sgz i 25 z g z (sgz (I6 _) 26 z g z (sg _ 27 z g (fun w b=>aJ z z uI sI (ak m) q s) (sg _ 28 z g (fun w b=>xG z fI z) (sg _ 29 z g (fun w b=>xL z ((t lr b) 2 _ z)) (sgz j 30 z g z (sgz (I6 _) 31 z g z (sg _ 32 z g (fun w b=>aJ z z uI sI (ak p) u x) (sg _ 33 z g (fun w b=>xG z fI z) (sg _ 34 z g (fun w b=>xL z ((y lr b) 2 _ z)) (sgz (.bool _) 35 z g z (sh (.bool _) 36 z (fun w b=>aL g z z) (sb 37 z z (bs c ?_ ?_)))))))))))))
 {
 intro h c
 cases c
}
 refine fun h c=>sgz i 38 z h z (sgz (I6 _) 39 z h z (sg _ 40 z h (fun w b=>aJ z z uI sI (ak m) q s) (sg _ 41 z h (fun w b=>xG z fI z) (sg _ 42 z h (fun w b=>xL z ((t lr b) 3 _ z)) (sgz j 43 z h z (sgz (I6 _) 44 z h z (sg _ 45 z h (fun w b=>aJ z z uI sI (ak p) u x) (sg _ 46 z h (fun w b=>xG z fI z) (sg _ 47 z h (fun w b=>xL z ((y lr b) 3 _ z)) (sgz (.bool _) 48 z h z (sh (.bool _) 49 z (fun w b=>aL h z z) (sb 50 z z (bs c ?_ ?_)))))))))))))
 {
 intro d c
 cases c
}
 refine fun d c=>sgz i 51 z d z (sgz (I6 _) 52 z d z (sg _ 53 z d (fun w b=>aJ z z uI sI (ak m) q s) (sg _ 54 z d (fun w b=>xG z fI z) (sg _ 55 z d (fun w b=>xN (cs:=[F6 k.W.At,.bool k.W.Del,B]) z (et (o:=4) (t lr b) z)) (sgz j 57 z d z (sgz (I6 _) 58 z d z (sg _ 59 z d (fun w b=>aJ z z uI sI (ak p) u x) (sg _ 60 z d (fun w b=>xG z fI z) (sg _ 61 z d (fun w b=>xN (cs:=[F6 l.W.At,.bool l.W.Del,D]) z (et (o:=4) (y lr b) z)) (tZ 56 62 krA ?_ ?_))))))))))
 {
 refine nxe [62,63,64,65] krA z ((av z z z (cvb d)).trans z) ?_
 clear b
 intro w b
 obtain ⟨K,b4,b5,b6,b⟩:=b.lits (E:=cG) (xs:=[k.W]) [[F6 k.W.At,.bool k.W.Del,B]] 41 1 z (bT.cons ⟨_,z,C,oS (ak C)⟩ bT.nil)
 refine cj (v:=(.slice (some ⟨K,0,none⟩) 1 1)) (w':=b4) z (dH krA b5 b6) (wn [61,60,59,58,57] b (dx z (di ((av z z z (cvb d)).trans z) (fun w b=>xN (cs:=[F6 l.W.At,.bool l.W.Del,D]) z (et (o:=4) (y lr b) z))) (dx z (di ((av z z z (cvb d)).trans z) (fun w b=>xG z fI z)) (dx z (di ((av z z z (cvb d)).trans z) (fun w b=>aJ z z uI sI (ak p) u x)) (dx z (di ((av z z z (cvb d)).trans z) (fun w b=>z)) (dx z (di ((av z z z (cvb d)).trans z) (fun w b=>z)) aT))))) (iN 62 krA (nxe [63,64,65] krA z ((av z z z (cvb d)).trans z) ?_)))
 clear b
 intro w b
 obtain ⟨L,b7,b8,b9,b⟩:=b.lits (E:=cG) (xs:=[l.W]) [[F6 l.W.At,.bool l.W.Del,D]] 41 1 z (bT.cons ⟨_,z,F,oS (ak F)⟩ bT.nil)
 refine cj (v:=(.slice (some ⟨L,0,none⟩) 1 1)) (w':=b7) z (dH krA b8 b9) (w0n b (iN 63 krA (nxe [64,65] krA z ((av z z z (cvb d)).trans z) ?_)))
 clear b
 intro w b
 replace b:=b.ah
 obtain ⟨d7,M,b⟩:=b.cz
 replace b:=b.ah
 obtain ⟨d8,N,b⟩:=b.cz
 obtain ⟨d9,c1,c⟩:=bn c
 refine wec call18 [(.slice (some ⟨K,0,none⟩) 1 1),(.slice (some ⟨L,0,none⟩) 1 1)] z z (kcO (pd (b.tg M) (b.jA N) b.to0 c1) fun e0 b=>?_)
 replace b:=(b.ah.bo M).ah.bo N
 refine w0n b (sgz (.bool _) 64 z d z (sh (.bool _) 65 z (fun w b=>aL d z z) (bt ?_)))
 intro w b
 refine ⟨z,?_⟩
 cases c
 exact ⟨_,J,fy z,b.cT⟩
}
 refine nxe [56,63,64,65] krA z ((av z z z (cvb d)).trans z) ?_
 clear b
 intro w b
 obtain ⟨O,c2,c3,c4,b⟩:=b.lits (E:=cG) (xs:=[l.W]) [[F6 l.W.At,.bool l.W.Del,D]] 41 1 z (bT.cons ⟨_,z,F,oS (ak F)⟩ bT.nil)
 refine cj (v:=(.slice (some ⟨O,0,none⟩) 1 1)) (w':=c2) z (dH krA c3 c4) (wn [55,54,53,52,51] b (dx z (di ((av z z z (cvb d)).trans z) (fun w b=>xN (cs:=[F6 k.W.At,.bool k.W.Del,B]) z (et (o:=4) (t lr b) z))) (dx z (di ((av z z z (cvb d)).trans z) (fun w b=>xG z fI z)) (dx z (di ((av z z z (cvb d)).trans z) (fun w b=>aJ z z uI sI (ak m) q s)) (dx z (di ((av z z z (cvb d)).trans z) (fun w b=>z)) (dx z (di ((av z z z (cvb d)).trans z) (fun w b=>z)) aT))))) (iN 56 krA (nxe [63,64,65] krA z ((av z z z (cvb d)).trans z) ?_)))
 clear b
 intro w b
 obtain ⟨P,c5,c6,c7,b⟩:=b.lits (E:=cG) (xs:=[k.W]) [[F6 k.W.At,.bool k.W.Del,B]] 41 1 z (bT.cons ⟨_,z,C,oS (ak C)⟩ bT.nil)
 refine cj (v:=(.slice (some ⟨P,0,none⟩) 1 1)) (w':=c5) z (dH krA c6 c7) (w0n b (iN 63 krA (nxe [64,65] krA z ((av z z z (cvb d)).trans z) ?_)))
 clear b
 intro w b
 obtain ⟨e1,Q,b⟩:=b.cz
 replace b:=b.ah
 obtain ⟨e2,S,b⟩:=b.cz
 obtain ⟨e3,c8,c⟩:=bn c
 refine wec call18 [(.slice (some ⟨P,0,none⟩) 1 1),(.slice (some ⟨O,0,none⟩) 1 1)] z z (kcO (pd (b.tg Q) (b.jA S) b.to0 c8) fun e4 b=>?_)
 replace b:=(b.ah.bo Q).ah.bo S
 refine w0n b (sgz (.bool _) 64 z d z (sh (.bool _) 65 z (fun w b=>aL d z z) (bt ?_)))
 intro w b
 refine ⟨z,?_⟩
 cases c
 exact ⟨_,J,fy z,b.cT⟩
}
 rintro _ e5 ⟨G,c,⟨e6,rfl⟩,b⟩
 dsimp only [nK] at c
 refine tn (bw c z ?_ ?_)
 {
 intro c9 c
 cases c
}
 refine fun c9 c=>al (bJ (tn (wrl (mi z (mi z (mi z (nt ?_)))))))
 cases c
 exact ⟨_,nls,_,H,fy z,b.cT⟩
}
 refine fun X c=>bH (aQ (aQ ?_))
 replace c:=bz c H
 refine cZ (tn (ww (mb z (nt (ar ?_)))))
 cases c
 exact pB z z ⟨z,b.cT⟩
}
theorem xJ {a0:(Option ai)} {p0:Value} {a1:Int} (a:St w0 w I [cX aM p0 a0] R) {r:(Int)} (b:nV a0 a1=some r) :
  Calls prog 22 #[p0,U6 a1] w fun e w'=>e = .returned (.int .u64 r)∧St w0 w' I [cX aM p0 a0] R:=by {
 rcases a0 with _ | c
 {
 dsimp only [nV] at b
 cases b
}
 replace a:=bQ a
 dsimp only [nV] at b
 refine c0 func22 z z (ww (mi z (nt (aj (ww (mv (p0) z ?_))))))
 obtain ⟨d,i,j,f,k,l,m,n,rfl,g⟩:=bC a
 have a:=g
 refine mk (.bool false) (nt (cJ z (al (tn (ww (mp z (mp z (mF z fI (mL z (a.bc0 z) (mi z ?_))))))))))
 replace a:=a.aA
 obtain ⟨o,h,b⟩:=bn b
 refine wc call61 [f,U6 a1] z z z (kcI (qV a.to1 h) fun p a=>mi z (nt (ar ?_)))
 obtain rfl:=sj b
 exact pI z z ⟨z,(aR (aF (Pt d 0) c a.aW.aW.aW.aW.bj.aW.aW.aW z)).bF⟩
}
theorem vV {a0:(Option bE)} {p0:Value} {a1 a2:Int} (a:St w0 w I [cX bV p0 a0] R) {r:(bB×Int)} (c:iO a0 a1 a2=some r) :
  Calls prog 82 #[p0,U6 a1,U6 a2] w fun e w'=>∃ (I':HL) (n:Value) (p:Value),e = .returned (.tuple #[.agg #[I6 r.1.E,U6 r.1.ae,U6 r.1.Index,n,p],I6 r.2])∧I.le I'∧Ro aK I' n r.1.dT∧Ro (eC aH) I' p r.1.aX∧St w0 w' I' [cX bV p0 a0] R:=by {
 rcases a0 with _ | g
 {
 dsimp only [iO] at c
 cases c
}
 replace a:=bQ a
 dsimp only [iO] at c
 refine c0 func82 z z ?_
 have f:=HL.le.refl I
 refine ww ?_
 obtain ⟨N,O,u,v,a⟩:=a.box [Zi,Zu,Zu,Zs,Zs] 33
 refine wa u v (mi z (nt (ww (mv (p0) z (mi z ?_)))))
 replace a:=aR a.ah
 obtain ⟨q,x,c⟩:=bn c
 refine wc call148 [p0,U6 a1] z z z (kcI (nB a.to1 x) fun P a=>?_)
 replace a:=bQ a
 refine mv (.tuple #[I6 q.1,.bool q.2]) z (mi z (mb z (mi z (mb z (nt (aj (au (ww (mb z (mb z (mb z (bs c ?_ ?_))))))))))))
 {
 refine fun b c=>go b (go b (go b (go b (go b (go b (go b (go b (go b (go b (mb (bi b z z) (mb z (nt (eG z (ww (mk (.agg #[Zi,Zu,Zu,Zs,Zs]) ?_)))))))))))))))
 replace a:=a.ah
 refine bxk a z sI (oJ 5 z oN) fun Q a=>mi z (nt (ar (eo (bh ?_))))
 have y:Ro aK I (.slice none 0 0) []:=dc
 have A:Ro (eC aH) I (.slice none 0 0) []:=dc
 replace a:=aR a.ah
 cases c
 exact dI [.agg #[Zi,Zu,Zu,Zs,Zs],I6 2] z (ea (rN z (a.fO 0 tz)) (rc z bl)) ⟨_,Zs,Zs,z,f,y,A,a.bF⟩
}
 refine fun b c=>gv (p0) b z ?_
 obtain ⟨h,S,rfl,B⟩:=dJ a
 have a:=B
 refine gp b z (gg b (xF z fI z) (gg b (xL z (a.bc0 z)) (gi b z ?_)))
 obtain ⟨d,C,c⟩:=bn c
 obtain ⟨i,j,D⟩:=aV C
 refine gg b (aJ z z uI sI a.sv1 i j) (gg b (xG z fI z) ?_)
 obtain ⟨T,F,k⟩:=a.og1 D
 obtain ⟨l,m,rfl,s,t,-⟩:=F
 refine gg b (xL z (k 1 _ z)) (gi b z (gb b z (mb (aL b z z) (mb z (nt (bw c z ?_ ?_))))))
 {
 refine fun G c=>ww (mk (.agg #[Zi,Zu,Zu,Zs,Zs]) ?_)
 replace a:=a.aD
 refine bxk a z sI (oJ 5 z oN) fun U a=>mi z (nt (ar (eo (bh ?_))))
 have H:Ro aK I (.slice none 0 0) []:=dc
 have J:Ro (eC aH) I (.slice none 0 0) []:=dc
 replace a:=aR (cQ (Pt h 0) g a.aD.aD z)
 cases c
 exact dI [.agg #[Zi,Zu,Zu,Zs,Zs],I6 2] z (ea (rN z (a.fO 0 tz)) (rc z bl)) ⟨_,Zs,Zs,z,f,H,J,a.bF⟩
}
 refine fun G c=>ww (mp z (mp z (mF z fI (mL z (a.bc0 z) (mi z (mz (aJ z z uI sI a.sv1 i j) (mz (xG z fI z) (mL z (k 1 _ z) (mi z (mb z (mb z (nt (bw c z ?_ ?_)))))))))))))
 {
 refine fun K c=>ww (mk (.agg #[Zi,Zu,Zu,Zs,Zs]) ?_)
 replace a:=a.aD
 refine bxk a z sI (oJ 5 z oN) fun V a=>mi z (nt (ar (eo (bh ?_))))
 have L:Ro aK I (.slice none 0 0) []:=dc
 have M:Ro (eC aH) I (.slice none 0 0) []:=dc
 replace a:=aR (cQ (Pt h 0) g a.aD.aD z)
 cases c
 exact dI [.agg #[Zi,Zu,Zu,Zs,Zs],I6 10] z (ea (rN z (a.fO 0 tz)) (rc z bl)) ⟨_,Zs,Zs,z,f,L,M,a.bF⟩
}
 refine fun K c=>al (bJ (tn (ww (mp z (mp z (mF z fI (mL z (a.bc0 z) (mi z (mz (aJ z z uI sI a.sv1 i j) (mz (xG z fI z) (mz (xN (cs:=[I6 d.r.E,U6 d.r.ae,U6 d.r.Index,l,m]) z (et (o:=2) k z)) ?_)))))))))))
 replace a:=a.aD
 refine bxk a z sI (oJ 3 z (oC (oS (ak s)) (oC (oS (ak t)) oN))) fun W a=>mi z (nt (ar ?_))
 replace a:=aR (cQ (Pt h 0) g a.aD.aD z)
 cases c
 exact dI [.agg #[I6 d.r.E,U6 d.r.ae,U6 d.r.Index,l,m],Zi] z (ea (rN z (a.fO 0 tz)) (rc z bl)) ⟨_,l,m,z,f,s,t,a.bF⟩
}
theorem we {a0:(Option ai)} {p0:Value} {a1:cy} (a:St w0 w I [cX aM p0 a0] R) {r:(bB×Int)} (c:mr a0 a1=some r) :
  Calls prog 37 #[p0,.agg #[U6 a1.ab,U6 a1.Seq]] w fun e w'=>∃ (I':HL) (h:Value) (i:Value),e = .returned (.tuple #[.agg #[I6 r.1.E,U6 r.1.ae,U6 r.1.Index,h,i],I6 r.2])∧I.le I'∧Ro aK I' h r.1.dT∧Ro (eC aH) I' i r.1.aX∧St w0 w' I' [cX aM p0 a0] R:=by {
 rcases a0 with _ | l
 {
 dsimp only [mr] at c
 cases c
}
 replace a:=bQ a
 dsimp only [mr] at c
 refine c0 func37 z z ?_
 have d:=HL.le.refl I
 refine ww ?_
 obtain ⟨x,y,m,n,a⟩:=a.box [U6 a1.ab,U6 a1.Seq] 28
 refine wa m n ?_
 obtain ⟨A,B,o,p,a⟩:=a.box [Zi,Zu,Zu,Zs,Zs] 33
 refine wa o p (mi z (nt (aj (ww (mv (p0) z ?_)))))
 obtain ⟨q,C,D,s,F,G,H,J,rfl,t⟩:=bC a.aD
 have a:=t
 refine mk (.bool false) (nt (cJ z (al (tn (aj (rg a 13 [0,1,3,7,0,16,0,64,255,511,511,2047,4095] [] mixed (sp 0 z z (sp 1 z z (sF 2 z z fI (sL 3 z z (·.bc0 z) (sF 4 z z fI (sL 5 z z (·.bc9 z) (sF 6 z z fI (sL 7 z z (·.bc9 z) (e1 8 z z fun w a=>?_)))))))))))))))
 replace a:=a.aA
 obtain ⟨b,u,c⟩:=bn c
 refine wec call82 [s,U6 a1.ab,U6 a1.Seq] z z ((vV a.to1 u).mono ?_)
 rintro _ K ⟨L,f,g,rfl,v,j,k,a⟩
 refine ⟨_,z,?_⟩
 replace a:=a.of1
 replace d:=d.trans v
 refine w0n a (sz (.agg #[I6 b.1.E,U6 b.1.ae,U6 b.1.Index,f,g]) 9 z z (si 10 z z (e1 11 z z fun w a=>?_)))
 replace a:=a.bM
 refine bxe a z sI (oJ 3 z (oC (oS (ak j)) (oC (oS (ak k)) oN))) fun M a=>w0n a (si 12 z z (bt ?_))
 refine fun w a=>tn (ar ?_)
 replace a:=aR (aF (Pt q 0) l a.bM.bM.bM.bM.bq.bM.bM.bM z)
 cases c
 exact dI [.agg #[I6 b.1.E,U6 b.1.ae,U6 b.1.Index,f,g],I6 b.2] z (ea (rN z (a.fO 0 tz)) (rc z bl)) ⟨_,f,g,z,d,j,k,a.bF⟩
}
theorem yf {a0:(Option cg)} {p0:Value} {a1 a2:Int} (b:St w0 w I [cX cH p0 a0] R) {r:(dV×Bool)} (d:pi a0 a1 a2=some r) :
  Calls prog 156 #[p0,U6 a1,U6 a2] w fun e w'=>e = .returned (.tuple #[.agg #[U6 r.1.ID,I6 r.1.dn,I6 r.1.To,F6 r.1.Lo,F6 r.1.Hi,U6 r.1.Authority,I6 r.1.cx],.bool r.2])∧St w0 w' I [cX cH p0 a0] R:=by {
 rcases a0 with _ | i
 {
 dsimp only [pi] at d
 cases d
}
 replace b:=bQ b
 dsimp only [pi] at d
 refine c0 func156 z z (ww ?_)
 obtain ⟨p,G,q,s,b⟩:=b.box [Zu,Zi,Zi,Zf,Zf,Zu,Zi] 39
 refine wa q s (mb z (nt (aj (ww (mv (p0) z ?_)))))
 obtain ⟨j,H,rfl,t⟩:=eF b.ah
 have b:=t
 refine mk (.bool false) (nt (cJ z (al (tn (aj (ww (mp z (mp z (mF z fI (mL z (b.bc0 z) (mz (bX z uI b.sv1) (mi z (mi z (nt (au ?_)))))))))))))))
 replace b:=dk (Pt j 0) i b.ah.ah z
 obtain ⟨u,d⟩:=aS d
 refine bg (fun n a w=>∃ (m:Int),cU (iU i a1 a2) n m=some r∧fz 55 [0,1,2,6,8] [Pt j 0,U6 a1,U6 a2,Pt p 0,I6 m] a∧St w0 w I [cH (Pt j 0) i,cells p [Zu,Zi,Zi,Zf,Zf,Zu,Zi]] R) u ⟨(i64.wrap (((i.l).length:Int) - 1)),d,fy z,b⟩ ?_
 rintro J _ K ⟨m,d,⟨L,rfl⟩,b⟩
 obtain ⟨M,N,rfl,d,k⟩:=aU d
 dsimp only [iU] at d
 refine aj (ww (mi z (mb z (nt (bw d z ?_ ?_)))))
 {
 refine fun v d=>al (tn (aj (au (ww (mp z ?_)))))
 obtain ⟨O,P,o,x⟩:=eF b
 replace o:=ez o
 subst o
 have b:=x
 refine mp z (mF z fI (mL z (b.bc0 z) (mi z ?_)))
 obtain ⟨c,y,d⟩:=bn d
 obtain ⟨A,B,C⟩:=aV y
 refine mz (aJ z z uI sI b.sv1 A B) (mz (xN (cs:=[U6 c.r.ID,I6 c.r.dn,I6 c.r.To,F6 c.r.Lo,F6 c.r.Hi,U6 c.r.Authority,I6 c.r.cx,U6 c.from_,U6 c.to_]) z (b.Mg C 0 riA)) ?_)
 obtain ⟨Q,S,D,E,b⟩:=b.box [Zu,Zi,Zi,Zf,Zf,Zu,Zi,Zu,Zu] 224
 refine wa D E (bxk b z sI (oJ 9 z oN) fun T b=>nt (ww (mF z fI (mF z fI (mL z (b.bc0 z) (mi z (mb z (mb z (bs d ?_ ?_)))))))))
 {
 refine fun g d=>gg g (xF z fI z) (gg g (xL z (b.bc0 z)) (gi g z (gb g z (mb (bi g z z) (mb z (bs d ?_ ?_))))))
 {
 refine fun f d=>gg f (xF z fI z) (gg f (xL z (b.bc0 z)) (gb f z (gb f z (bs d ?_ ?_))))
 {
 refine fun h d=>go h (go h (go h (go h (gb f (bi h z z) (mb (bi f z z) (nt (eG z (ww (mF z fI (mz (xN (cs:=[U6 c.r.ID,I6 c.r.dn,I6 c.r.To,F6 c.r.Lo,F6 c.r.Hi,U6 c.r.Authority,I6 c.r.cx]) z (b.fm 0 z)) ?_))))))))))
 replace b:=b.aA
 refine bxk b z sI (oJ 7 z oN) fun U b=>mb z (nt (ar (eo (bh (bh ?_)))))
 replace d:=bz d k
 refine eo (bh ?_)
 replace b:=aR (dk (Pt j 0) i b.aA.aA z)
 cases d
 exact dI [.agg #[U6 c.r.ID,I6 c.r.dn,I6 c.r.To,F6 c.r.Lo,F6 c.r.Hi,U6 c.r.Authority,I6 c.r.cx],.bool true] z (ea (rN (cs:=[U6 c.r.ID,I6 c.r.dn,I6 c.r.To,F6 c.r.Lo,F6 c.r.Hi,U6 c.r.Authority,I6 c.r.cx]) z (b.fO 0 z)) (rc z bl)) ⟨z,b.bF⟩
}
 refine fun h d=>gg h (xF z fI z) (gg h (xL z (b.bc0 z)) (gi h z (gb h z (gb f (aL h z z) (mb (bi f z z) (nt (bw d z ?_ ?_)))))))
 {
 refine fun F d=>ww (mF z fI (mz (xN (cs:=[U6 c.r.ID,I6 c.r.dn,I6 c.r.To,F6 c.r.Lo,F6 c.r.Hi,U6 c.r.Authority,I6 c.r.cx]) z (b.fm 0 z)) ?_))
 replace b:=b.aA
 refine bxk b z sI (oJ 7 z oN) fun V b=>mb z (nt (ar (eo (bh (bh ?_)))))
 replace d:=bz d k
 refine eo (bh ?_)
 replace b:=aR (dk (Pt j 0) i b.aA.aA z)
 cases d
 exact dI [.agg #[U6 c.r.ID,I6 c.r.dn,I6 c.r.To,F6 c.r.Lo,F6 c.r.Hi,U6 c.r.Authority,I6 c.r.cx],.bool true] z (ea (rN (cs:=[U6 c.r.ID,I6 c.r.dn,I6 c.r.To,F6 c.r.Lo,F6 c.r.Hi,U6 c.r.Authority,I6 c.r.cx]) z (b.fO 0 z)) (rc z bl)) ⟨z,b.bF⟩
}
 refine fun F d=>al (bJ (tn (wrl (mi z (mi z (mi z (nt ?_)))))))
 cases d
 exact ⟨_,nls,_,k,fy z,(dk (Pt j 0) i b.aD.aD z).aD.ah.cv⟩
}
 refine fun f d=>go f (go f (go f (go f (gu (gu (gu (gu (go f (mb (aL f z z) (nt (cJ z (al (bJ (tn (wrl (mi z (mi z (mi z (nt ?_)))))))))))))))))))
 cases d
 exact ⟨_,nls,_,k,fy z,(dk (Pt j 0) i b.aD.aD z).aD.ah.cv⟩
}
 refine fun g d=>go g (go g (go g (go g (mb (aL g z z) (mb z (gz (gz (gz (gz (gu (gu (gu (gu (gz (mb (aL z z z) (nt (cJ z (al (bJ (tn (wrl (mi z (mi z (mi z (nt ?_)))))))))))))))))))))))))
 cases d
 exact ⟨_,nls,_,k,fy z,(dk (Pt j 0) i b.aD.aD z).aD.ah.cv⟩
}
 refine fun v d=>bH (aQ (aQ ?_))
 replace d:=bz d k
 refine cZ (tn (ww (mk (.agg #[Zu,Zi,Zi,Zf,Zf,Zu,Zi]) ?_)))
 replace b:=b.ah
 refine bxk b z sI (oJ 7 z oN) fun W b=>mb z (nt (ar ?_))
 replace b:=aR b.ah
 cases d
 exact dI [.agg #[Zu,Zi,Zi,Zf,Zf,Zu,Zi],.bool false] z (ea (rN (cs:=[Zu,Zi,Zi,Zf,Zf,Zu,Zi]) z (b.fO 0 z)) (rc z bl)) ⟨z,b.bF⟩
}
theorem xO {a0:(Option ai)} {p0:Value} {a1 a2:Int} (b:St w0 w I [cX aM p0 a0] R) {r:(dV×Int)} (c:nW a0 a1 a2=some r) :
  Calls prog 94 #[p0,U6 a1,U6 a2] w fun e w'=>e = .returned (.tuple #[.agg #[U6 r.1.ID,I6 r.1.dn,I6 r.1.To,F6 r.1.Lo,F6 r.1.Hi,U6 r.1.Authority,I6 r.1.cx],I6 r.2])∧St w0 w' I [cX aM p0 a0] R:=by {
 rcases a0 with _ | g
 {
 dsimp only [nW] at c
 cases c
}
 replace b:=bQ b
 dsimp only [nW] at c
 refine c0 func94 z z (ww ?_)
 obtain ⟨i,x,k,l,b⟩:=b.box [Zu,Zi,Zi,Zf,Zf,Zu,Zi] 39
 refine wa k l (mi z (nt ?_))
 obtain ⟨y,c,h⟩:=ee c
 refine cR (fun a w =>(jF g a1 a2) ()=some r∧fz 36 [0,1,2,6] [p0,U6 a1,U6 a2,Pt i 0] a∧St w0 w I [aM p0 g,cells i [Zu,Zi,Zi,Zf,Zf,Zu,Zi]] R) ?_ ?_
 {
 refine ww (mv (p0) z (mi z ?_))
 replace b:=aR b.ah
 obtain ⟨m,n,c⟩:=bn c
 refine wc call63 [p0,U6 a2] z z z (kcI (ti b.to1 n) fun A b=>?_)
 replace b:=bQ b
 refine mi z (nt (ww (mi z (mb z (mb z (bs c ?_ ?_))))))
 {
 refine fun f c=>gi f z (gb f z (mb (bi f z z) (nt (bw c z ?_ ?_))))
 {
 refine fun o c=>ww (mk (.agg #[Zu,Zi,Zi,Zf,Zf,Zu,Zi]) (mi z ?_))
 replace b:=b.ah
 refine bxk b z sI (oJ 7 z oN) fun B b=>mi z (nt (ar (bh ?_)))
 replace c:=bz c h
 replace b:=aR b.ah
 cases c
 exact dI [.agg #[Zu,Zi,Zi,Zf,Zf,Zu,Zi],I6 m] z (ea (rN z (b.fO 0 tz)) (rc z bl)) ⟨z,b.bF⟩
}
 refine fun o c=>al (tn ?_)
 cases c
 exact ⟨h,fy z,b.ah.ah.cv⟩
}
 refine fun f c=>go f (go f (mb (aL f z z) (nt (cJ z (al (tn ?_))))))
 cases c
 exact ⟨h,fy z,b.ah.ah.cv⟩
}
 rintro _ C ⟨c,⟨D,rfl⟩,b⟩
 dsimp only [jF] at c
 refine ww (mv (p0) z ?_)
 obtain ⟨j,E,F,G,p,H,J,K,rfl,q⟩:=bC b
 have b:=q
 refine mp z (mF z fI (mL z (b.bc0 z) (mi z (mi z ?_))))
 replace b:=b.bj
 obtain ⟨d,s,c⟩:=bn c
 refine wc call156 [p,U6 a1,U6 a2] z z z (kcI (yf b.to1 s) fun L b=>mv (.tuple #[.agg #[U6 d.1.ID,I6 d.1.dn,I6 d.1.To,F6 d.1.Lo,F6 d.1.Hi,U6 d.1.Authority,I6 d.1.cx],.bool d.2]) z (mv (.agg #[U6 d.1.ID,I6 d.1.dn,I6 d.1.To,F6 d.1.Lo,F6 d.1.Hi,U6 d.1.Authority,I6 d.1.cx]) z (mb z ?_)))
 obtain ⟨M,N,t,u,b⟩:=b.box [Zu,Zi,Zi,Zf,Zf,Zu,Zi] 39
 refine wa t u (bxk b z sI (oJ 7 z oN) fun O b=>mb z (nt (aj (ww (mb z (mb z (nt (bw c z ?_ ?_))))))))
 {
 refine fun v c=>ww (mk (.agg #[Zu,Zi,Zi,Zf,Zf,Zu,Zi]) ?_)
 replace b:=b.ca
 refine bxk b z sI (oJ 7 z oN) fun P b=>mi z (nt (ar (bh ?_)))
 replace b:=aR (aF (Pt j 0) g b.ca.ca.ca.bq.ca.ca.ca.ca z)
 cases c
 exact dI [.agg #[Zu,Zi,Zi,Zf,Zf,Zu,Zi],I6 12] z (ea (rN z (b.fO 0 tz)) (rc z bl)) ⟨z,b.bF⟩
}
 refine fun v c=>al (tn (ww (mz (xN z (b.fm 0 tz)) ?_)))
 replace b:=b.ca
 refine bxk b z sI (oJ 7 z oN) fun Q b=>mi z (nt (ar ?_))
 replace b:=aR (aF (Pt j 0) g b.ca.ca.ca.bq.ca.ca.ca.ca z)
 cases c
 exact dI [.agg #[U6 d.1.ID,I6 d.1.dn,I6 d.1.To,F6 d.1.Lo,F6 d.1.Hi,U6 d.1.Authority,I6 d.1.cx],Zi] z (ea (rN z (b.fO 0 tz)) (rc z bl)) ⟨z,b.bF⟩
}
end Go.Proofs.YtgnkkopjkgdieaaGreat
